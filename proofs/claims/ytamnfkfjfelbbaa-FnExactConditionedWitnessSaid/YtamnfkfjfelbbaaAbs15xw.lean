import Derived.Test.YtamnfkfjfelbbaaAbs14xw
import Derived.Test.YtamnfkfjfelbbaaAbsDxw
set_option linter.unusedVariables false
set_option linter.unusedSimpArgs false
namespace Go.Q
open Go.RowKit
section
variable {P : Program} {ops : Array Oper} {o : Oper} {σ : St} {q : Bool}
def MkPost (w : World) (x' : V0) (u v : Value) (F : List Nat) (e : Ending) (w' : World) : Prop :=
 e = .returned u ∧ ∃ F', V0r true w' x' v F' ∧ F'.Nodup ∧ (∀ b ∈ F', (w.heap.size ≤ b ∨ b ∈ F) ∧ Thaw w' b) ∧ Chg w w' F
def FnM (P : Program) (f : FuncId) (x : V0) (k : Value) (x' : V0) (u : Value) : Prop :=
 Callee P f ∧ u.oneCell' = true ∧ ∀ w v F, Good w F → V0r true w x v F → F.Nodup → (∀ b ∈ F, Thaw w b) → Calls P f (List.toArray [v, k]) w (MkPost w x' u v F)
def E.puvL (ids : List Nat) : E → E
 | .vw i x => bif memN ids i then .no else .vw i x
 | .sb i k p q => bif memN ids i then .no else .sb i k p q
 | e => e
def A.puvL (ids : List Nat) : A → A
 | .one e => .one (e.puvL ids)
 | .agg l => .agg (l.map (E.puvL ids))
def S.puvL (ids : List Nat) : S → S
 | .a x => .a (x.puvL ids)
 | .tup l => .tup (l.map (A.puvL ids))
def R.puvL (ids : List Nat) : R → R
 | .row k rows => .row k rows
 | .box cs => .box (cs.map (E.puvL ids))
 | .hdr j x => .hdr j x
 | .kept K => .kept K
 | .opq => .opq
 | .cur g => .cur g
 | .mp b f => .mp b f
def updRL (L : List (Nat × R)) (ids : List Nat) (rs : List (Nat × R)) : List (Nat × R) := rs.map fun x => (x.1, match look L x.1 with | some r => r | none => x.2.puvL ids)
def puvSL (ids : List Nat) (sl : List (Nat × (Bool × S))) : List (Nat × (Bool × S)) := sl.map fun x => (x.1, (x.2.1, x.2.2.puvL ids))
def St.updM (σ : St) (L : List (Nat × R)) : St := ⟨σ.n, puvSL (L.map (·.1)) σ.slots, updRL L (L.map (·.1)) σ.res⟩
def Ip.newF (I : Ip) (ids : List Nat) (NF : Nat → List Nat) : Ip := ⟨I.Z, fun i => bif memN ids i then NF i else I.F i, I.hd, I.B⟩
section
variable {I : Ip} {w w' : World} {ids : List Nat} {NF : Nat → List Nat} {FF : List Nat}
theorem VE.puvL (hc : Chg w w' FF) (hZ : ∀ b, I.Z b → b ∉ FF) (hv : ∀ i, memN ids i = false → ∀ b ∈ I.F i, b ∉ FF) {e : E} {c : Value} (h : VE I w e c) : VE (I.newF ids NF) w' (e.puvL ids) c := by
 cases e with
 | t x => obtain ⟨G, h1, h2⟩ := h; exact ⟨G, h1.congr fun b hb => hc.block b (h1.lt b hb) (hZ b (h2 b hb)), h2⟩
 | no => trivial
 | rf i => exact h
 | tl i k j => exact h
 | pf i k j => exact h
 | vw i x =>
  simp only [E.puvL]
  cases e : memN ids i with
  | true => trivial
  | false =>
   obtain ⟨G', h1, h2⟩ := h
   refine ⟨G', h1.congr fun b hb => hc.block b (h1.lt b hb) (hv i e b (h2 b hb)), fun b hb => ?_⟩
   show b ∈ (bif memN ids i then NF i else I.F i)
   rw [e]; exact h2 b hb
 | pr i k p q => exact h
 | sb i k p q =>
  simp only [E.puvL]
  cases e : memN ids i with
  | true => trivial
  | false =>
   obtain ⟨g, n, m, h1, h2, h3, h4⟩ := h
   have hb' := hc.block g h3 (hv i e g h2)
   refine ⟨g, n, m, h1, ?_, heap_lt hb' h3, (World.cell?_of_block (a := ⟨g, _, none⟩) hb').trans h4⟩
   show g ∈ (bif memN ids i then NF i else I.F i)
   rw [e]; exact h2
 | pp i o => exact h
theorem VEs.puvL (hc : Chg w w' FF) (hZ : ∀ b, I.Z b → b ∉ FF) (hv : ∀ i, memN ids i = false → ∀ b ∈ I.F i, b ∉ FF) : ∀ {l : List E} {cs : List Value}, VEs I w l cs → VEs (I.newF ids NF) w' (l.map (E.puvL ids)) cs
 | [], _, h => h
 | _ :: _, _, ⟨c, cr, h1, h2, h3⟩ => ⟨c, cr, h1, h2.puvL hc hZ hv, h3.puvL hc hZ hv⟩
theorem VA.puvL (hc : Chg w w' FF) (hZ : ∀ b, I.Z b → b ∉ FF) (hv : ∀ i, memN ids i = false → ∀ b ∈ I.F i, b ∉ FF) {x : A} {v : Value} (h : VA I w x v) : VA (I.newF ids NF) w' (x.puvL ids) v := by
 cases x with
 | one e => exact VE.puvL hc hZ hv h
 | agg l => obtain ⟨cs, h1, h2⟩ := h; exact ⟨cs, h1, h2.puvL hc hZ hv⟩
theorem VAs.puvL (hc : Chg w w' FF) (hZ : ∀ b, I.Z b → b ∉ FF) (hv : ∀ i, memN ids i = false → ∀ b ∈ I.F i, b ∉ FF) : ∀ {l : List A} {cs : List Value}, VAs I w l cs → VAs (I.newF ids NF) w' (l.map (A.puvL ids)) cs
 | [], _, h => h
 | _ :: _, _, ⟨c, cr, h1, h2, h3⟩ => ⟨c, cr, h1, h2.puvL hc hZ hv, h3.puvL hc hZ hv⟩
theorem VS.puvL (hc : Chg w w' FF) (hZ : ∀ b, I.Z b → b ∉ FF) (hv : ∀ i, memN ids i = false → ∀ b ∈ I.F i, b ∉ FF) {x : Bool × S} {v : Value} (h : VS I w x v) : VS (I.newF ids NF) w' (x.1, x.2.puvL ids) v := by
 obtain ⟨p, x⟩ := x
 cases p
 · exact h
 · cases x with
   | a x => exact VA.puvL hc hZ hv h
   | tup l => obtain ⟨vs, h1, h2⟩ := h; exact ⟨vs, h1, h2.puvL hc hZ hv⟩
end
theorem memN_false {ids : List Nat} {i : Nat} : memN ids i = false ↔ i ∉ ids := by
 rw [← memN_iff]; cases memN ids i <;> simp
theorem look_some_mem {L : List (Nat × R)} {i : Nat} {r : R} (h : look L i = some r) : i ∈ L.map (·.1) := List.mem_map.2 ⟨_, look_mem h, rfl⟩
theorem look_none_not {L : List (Nat × R)} {i : Nat} (h : look L i = none) : i ∉ L.map (·.1) := by
 induction L with
 | nil => simp
 | cons x L ih =>
  obtain ⟨j, y⟩ := x
  rw [look_cons] at h
  by_cases e : j = i
  · rw [if_pos e] at h; cases h
  · rw [if_neg e] at h
    have := ih h
    simp only [List.map_cons, List.mem_cons, not_or]
    exact ⟨fun h => e h.symm, this⟩
theorem look_updRL (L : List (Nat × R)) (ids : List Nat) : ∀ (rs : List (Nat × R)) (i : Nat), look (updRL L ids rs) i = (look rs i).map fun y => match look L i with | some r => r | none => y.puvL ids
 | [], _ => rfl
 | (j, y) :: rs, i => by
  show look ((j, _) :: updRL L ids rs) i = _
  rw [look_cons, look_cons]
  by_cases e : j = i
  · subst e; rw [if_pos rfl, if_pos rfl]; rfl
  · rw [if_neg e, if_neg e]; exact look_updRL L ids rs i
theorem RelI.updM {I : Ip} {w0 : Base} {w w' : World} {a : Act} (h : RelI I w0 σ a w) {L : List (Nat × R)} {FF : List Nat} {NF : Nat → List Nat} (hL : ∀ i ∈ L.map (·.1), ∃ r0, look σ.res i = some r0) (hFF : ∀ b, b ∈ FF ↔ ∃ i ∈ L.map (·.1), b ∈ I.F i) (hc : Chg w w' FF)
 (hN : ∀ i ∈ L.map (·.1), (NF i).Nodup ∧ ∀ b ∈ NF i, w0.own b ∧ b < w'.heap.size ∧ Thaw w' b ∧ (b ∈ FF ∨ w.heap.size ≤ b)) (hap : ∀ i ∈ L.map (·.1), ∀ j ∈ L.map (·.1), i ≠ j → ∀ b ∈ NF i, b ∉ NF j)
 (hr : ∀ i r, look L i = some r → ∃ k rows, r = .row k rows ∧ C true w' (.sl k rows) (I.hd i) (NF i)) : RelI (I.newF (L.map (·.1)) NF) w0 (σ.updM L) a w' := by
 have hZ : ∀ b, I.Z b → b ∉ FF := fun b hz hb => by
  obtain ⟨i, _, hb⟩ := (hFF b).1 hb
  exact (h.lt i b hb).2 hz
 have hv : ∀ i, memN (L.map (·.1)) i = false → ∀ b ∈ I.F i, b ∉ FF := fun i hi b hb hf => by
  obtain ⟨j, hj, hb'⟩ := (hFF b).1 hf
  exact h.apart i j (fun e => memN_false.1 hi (e ▸ hj)) b hb hb'
 have hown : ∀ b ∈ FF, w0.own b := fun b hb => by
  obtain ⟨i, hi, hb⟩ := (hFF b).1 hb
  obtain ⟨r0, h0⟩ := hL i hi
  exact ((h.own i r0 h0).2 b hb).1
 have Fin : ∀ i, i ∈ L.map (·.1) → (I.newF (L.map (·.1)) NF).F i = NF i := fun i hi => by
  show (bif memN _ i then NF i else I.F i) = _
  rw [memN_iff.2 hi]; rfl
 have Fout : ∀ i, i ∉ L.map (·.1) → (I.newF (L.map (·.1)) NF).F i = I.F i := fun i hi => by
  show (bif memN _ i then NF i else I.F i) = _
  rw [memN_false.2 hi]; rfl
 refine ⟨Chg.ext h.ext hc hown, h.defers, h.size, fun i x hi => ?_, fun i r' hi => ?_, fun b hb => Nat.lt_of_lt_of_le (h.old b hb) hc.size, fun i b hb => ?_, fun i r' hi => ?_, fun i j hne b hb hb' => ?_⟩
 · have hi' : look (σ.slots.map fun x => (x.1, (x.2.1, x.2.2.puvL (L.map (·.1))))) i = some x := hi
   rw [look_map (fun x : Bool × S => (x.1, x.2.puvL (L.map (·.1))))] at hi'
   obtain ⟨y, hy, rfl⟩ := Option.map_eq_some_iff.1 hi'
   exact (h.slots i y hy).puvL hc hZ hv
 · have hi' : look (updRL L (L.map (·.1)) σ.res) i = some r' := hi
   rw [look_updRL] at hi'
   obtain ⟨y, hy, e⟩ := Option.map_eq_some_iff.1 hi'
   cases hl : look L i with
   | some r =>
    rw [hl] at e
    subst e
    obtain ⟨k, rows, rfl, h2⟩ := hr i _ hl
    show C true w' (.sl k rows) (I.hd i) _
    rw [Fin i (look_some_mem hl)]; exact h2
   | none =>
    rw [hl] at e
    subst e
    have hn := look_none_not hl
    have := h.res i y hy
    cases y with
    | row k rows =>
     have this : C true w (.sl k rows) (I.hd i) (I.F i) := this
     show C true w' (.sl k rows) (I.hd i) _
     rw [Fout i hn]
     exact this.congr fun b hb => hc.block b (this.lt b hb) (hv i (memN_false.2 hn) b hb)
    | box cs =>
     obtain ⟨h1, vs, t, h2, h3⟩ := this
     refine ⟨(Fout i hn).trans h1, vs, t, ?_, h3.puvL hc hZ hv⟩
     exact (hc.block _ (Array.getElem?_eq_some_iff.1 h2).1 (hv i (memN_false.2 hn) _ (by rw [h1]; simp))).trans h2
    | hdr j x => exact ⟨(Fout i hn).trans this.1, this.2⟩
    | opq => trivial
    | cur g =>
     have this : I.F i = [g.1] ∧ I.B i = g.1 ∧ CuB I.Z w g := this
     exact ⟨(Fout i hn).trans this.1, this.2.1, this.2.2.congr (hc.block _ this.2.2.lt (hv i (memN_false.2 hn) _ (by rw [this.1]; simp))) fun b hb hz => ⟨hz, hc.block b hb (hZ b hz)⟩⟩
    | mp b f =>
     have this : I.F i = [b] ∧ MapB w b f := this
     exact ⟨(Fout i hn).trans this.1, this.2.congr (hc.block _ this.2.lt (hv i (memN_false.2 hn) _ (by rw [this.1]; simp)))⟩
    | kept K => exact ⟨(Fout i hn).trans this.1, fun x hx => ⟨(hc.block x.1 (h.old _ (this.2 x hx).2) (hZ _ (this.2 x hx).2)).trans (this.2 x hx).1, (this.2 x hx).2⟩⟩
 · by_cases e : i ∈ L.map (·.1)
   · rw [Fin i e] at hb
     obtain ⟨_, g1, _, g2⟩ := (hN i e).2 b hb
     refine ⟨g1, fun hz => ?_⟩
     rcases g2 with g2 | g2
     · exact hZ b hz g2
     · have := h.old b hz; omega
   · rw [Fout i e] at hb
     exact ⟨Nat.lt_of_lt_of_le (h.lt i b hb).1 hc.size, (h.lt i b hb).2⟩
 · by_cases e : i ∈ L.map (·.1)
   · rw [Fin i e]
     exact ⟨(hN i e).1, fun b hb => ⟨((hN i e).2 b hb).1, ((hN i e).2 b hb).2.2.1⟩⟩
   · have hi' : look (updRL L (L.map (·.1)) σ.res) i = some r' := hi
     rw [look_updRL] at hi'
     obtain ⟨y, hy, _⟩ := Option.map_eq_some_iff.1 hi'
     rw [Fout i e]
     exact ⟨(h.own i y hy).1, fun b hb => ⟨((h.own i y hy).2 b hb).1, ((h.own i y hy).2 b hb).2.chg hc (hv i (memN_false.2 e) b hb)⟩⟩
 · by_cases ei : i ∈ L.map (·.1)
   · rw [Fin i ei] at hb
     by_cases ej : j ∈ L.map (·.1)
     · rw [Fin j ej] at hb'; exact hap i ei j ej hne b hb hb'
     · rw [Fout j ej] at hb'
       rcases ((hN i ei).2 b hb).2.2.2 with g | g
       · exact hv j (memN_false.2 ej) b hb' g
       · have := (h.lt j b hb').1; omega
   · rw [Fout i ei] at hb
     by_cases ej : j ∈ L.map (·.1)
     · rw [Fin j ej] at hb'
       rcases ((hN j ej).2 b hb').2.2.2 with g | g
       · exact hv i (memN_false.2 ei) b hb g
       · have := (h.lt i b hb).1; omega
     · rw [Fout j ej] at hb'; exact h.apart i j hne b hb hb'
inductive MkL (σ : St) : List E → List T → List T → List (Nat × R) → Prop where
 | nil : MkL σ [] [] [] []
 | v {x : Value} {es : List E} {ts ts' : List T} {L : List (Nat × R)} (h : MkL σ es ts ts' L) : MkL σ (.t (.v x) :: es) (.v x :: ts) (.v x :: ts') L
 | rf {id k : Nat} {rows rows' : List (List T)} {es : List E} {ts ts' : List T} {L : List (Nat × R)} (hs : look σ.res id = some (.row k rows)) (hn : look L id = none) (h : MkL σ es ts ts' L) : MkL σ (.rf id :: es) (.sl k rows :: ts) (.sl k rows' :: ts') ((id, .row k rows') :: L)
theorem MkL.own {I : Ip} {w0 : Base} {w : World} {a : Act} (hr : RelI I w0 σ a w) {es : List E} {ts ts' : List T} {L : List (Nat × R)} (h : MkL σ es ts ts' L) : ∀ {cs : List Value}, VEs I w es cs →
 ∃ F, Cs true w ts cs F ∧ F.Nodup ∧ (∀ b ∈ F, Thaw w b) ∧ (∀ b, b ∈ F ↔ ∃ i ∈ L.map (·.1), b ∈ I.F i) ∧ (∀ i ∈ L.map (·.1), ∃ r0, look σ.res i = some r0) := by
 induction h with
 | nil => intro cs hv; exact ⟨[], by unfold Cs; exact ⟨hv, rfl⟩, List.nodup_nil, by simp, by simp, by simp⟩
 | v h ih =>
  rintro cs ⟨c, cr, rfl, h1, h2⟩
  obtain ⟨F, g1, g2, g3, g4, g5⟩ := ih h2
  obtain ⟨G, k1, _⟩ := h1
  simp only [C] at k1
  obtain ⟨k1, rfl, k2⟩ := k1
  exact ⟨F, by unfold Cs; exact ⟨c, cr, [], F, rfl, by unfold C; exact ⟨k1, rfl, k2⟩, g1, rfl⟩, g2, g3, g4, g5⟩
 | @rf id k rows rows' es ts ts' L hs hn h ih =>
  rintro cs ⟨c, cr, rfl, h1, h2⟩
  obtain ⟨F, g1, g2, g3, g4, g5⟩ := ih h2
  have hC : C true w (.sl k rows) (I.hd id) (I.F id) := hr.res id _ hs
  have hc : c = I.hd id := h1.1
  have own := hr.own id _ hs
  have hni := look_none_not hn
  refine ⟨I.F id ++ F, by unfold Cs; exact ⟨c, cr, _, _, rfl, hc ▸ hC, g1, rfl⟩, List.nodup_append.2 ⟨own.1, g2, fun x hx y hy e => ?_⟩, fun b hb => ?_, fun b => ?_, fun i hi => ?_⟩
  · subst e
    obtain ⟨j, hj, hb⟩ := (g4 x).1 hy
    exact hr.apart id j (fun e => hni (e ▸ hj)) x hx hb
  · rcases List.mem_append.1 hb with hb | hb
    · exact (own.2 b hb).2
    · exact g3 b hb
  · simp only [List.mem_append, g4, List.map_cons, List.mem_cons]
    constructor
    · rintro (hb | ⟨j, hj, hb⟩)
      · exact ⟨id, .inl rfl, hb⟩
      · exact ⟨j, .inr hj, hb⟩
    · rintro ⟨j, rfl | hj, hb⟩
      · exact .inl hb
      · exact .inr ⟨j, hj, hb⟩
  · rcases List.mem_cons.1 hi with rfl | hi
    · exact ⟨_, hs⟩
    · exact g5 i hi
theorem MkL.back {I : Ip} {w0 : Base} {w w' : World} {a : Act} (hr : RelI I w0 σ a w) {es : List E} {ts ts' : List T} {L : List (Nat × R)} (h : MkL σ es ts ts' L) : ∀ {cs : List Value} {F' : List Nat}, VEs I w es cs → Cs true w' ts' cs F' → F'.Nodup →
 ∃ NF : Nat → List Nat, (∀ i ∈ L.map (·.1), (NF i).Nodup ∧ ∀ b ∈ NF i, b ∈ F') ∧ (∀ i ∈ L.map (·.1), ∀ j ∈ L.map (·.1), i ≠ j → ∀ b ∈ NF i, b ∉ NF j) ∧ ∀ i r, look L i = some r → ∃ k rows, r = .row k rows ∧ C true w' (.sl k rows) (I.hd i) (NF i) := by
 induction h with
 | nil => intro cs F' _ _ _; exact ⟨fun _ => [], by simp, by simp, fun i r h => by cases h⟩
 | v h ih =>
  rintro cs F' ⟨c, cr, rfl, h1, h2⟩ hC hN
  simp only [Cs] at hC
  obtain ⟨c', cr', G1, G2, e, k1, k2, rfl⟩ := hC
  cases e
  simp only [C] at k1
  obtain ⟨_, rfl, _⟩ := k1
  exact ih h2 k2 hN
 | @rf id k rows rows' es ts ts' L hs hn h ih =>
  rintro cs F' ⟨c, cr, rfl, h1, h2⟩ hC hN
  rw [Cs] at hC
  obtain ⟨c', cr', G1, G2, e, k1, k2, rfl⟩ := hC
  cases e
  obtain ⟨n1, n2, n3⟩ := List.nodup_append.1 hN
  obtain ⟨NF, g1, g2, g3⟩ := ih h2 k2 n2
  have hc : c = I.hd id := h1.1
  have hni := look_none_not hn
  have hself : ∀ i ∈ L.map (·.1), i ≠ id := fun i hi e => hni (e ▸ hi)
  refine ⟨fun i => if i = id then G1 else NF i, fun i hi => ?_, fun i hi j hj hne b hb hb' => ?_, fun i r hl => ?_⟩
  · rcases List.mem_cons.1 hi with hi1 | hi1
    · have hi1 : i = id := hi1
      simp only [if_pos hi1]; exact ⟨n1, fun b hb => by simp [hb]⟩
    · simp only [if_neg (hself i hi1)]
      exact ⟨(g1 i hi1).1, fun b hb => by simp [(g1 i hi1).2 b hb]⟩
  · rcases List.mem_cons.1 hi with hi1 | hi1
    · have hi1 : i = id := hi1
      rcases List.mem_cons.1 hj with hj1 | hj1
      · have hj1 : j = id := hj1
        exact hne (hi1.trans hj1.symm)
      · simp only [if_pos hi1] at hb
        simp only [if_neg (hself j hj1)] at hb'
        exact n3 b hb b ((g1 j hj1).2 b hb') rfl
    · simp only [if_neg (hself i hi1)] at hb
      rcases List.mem_cons.1 hj with hj1 | hj1
      · have hj1 : j = id := hj1
        simp only [if_pos hj1] at hb'
        exact n3 b hb' b ((g1 i hi1).2 b hb) rfl
      · simp only [if_neg (hself j hj1)] at hb'
        exact g2 i hi1 j hj1 hne b hb hb'
  · rw [look_cons] at hl
    by_cases e : id = i
    · subst e
      rw [if_pos rfl] at hl
      cases hl
      exact ⟨k, rows', rfl, by simp only [if_true]; rw [← hc]; exact k1⟩
    · rw [if_neg e] at hl
      obtain ⟨k', rows1, rfl, h4⟩ := g3 i r hl
      exact ⟨k', rows1, rfl, by simp only [if_neg (fun h => e h.symm : ¬ i = id)]; exact h4⟩
def V0of : A → List T → V0
 | .one _, ts => .one (ts.headD (.v undef))
 | .agg _, ts => .agg ts
theorem V0of_r {I : Ip} {w : World} {A0 : A} {v : Value} (hv : VA I w A0 v) : ∃ cs, VEs I w (cellsA A0) cs ∧ ∀ {oo : Bool} {w' : World} {ts : List T} {F : List Nat}, ts.length = (cellsA A0).length → (V0r oo w' (V0of A0 ts) v F ↔ Cs oo w' ts cs F) := by
 cases A0 with
 | one e =>
  refine ⟨[v], ⟨v, [], rfl, hv, rfl⟩, fun {oo w' ts F} hl => ?_⟩
  match ts, hl with
  | [t], _ =>
   show C oo w' t v F ↔ _
   constructor
   · intro h; unfold Cs; exact ⟨v, [], F, [], rfl, h, by unfold Cs; exact ⟨rfl, rfl⟩, by simp⟩
   · intro h
     rw [Cs] at h
     obtain ⟨c, cr, G1, G2, e, h1, h2, rfl⟩ := h
     cases e
     rw [Cs] at h2
     obtain ⟨_, rfl⟩ := h2
     simpa using h1
 | agg l =>
  obtain ⟨cs, rfl, h2⟩ := hv
  refine ⟨cs, h2, fun {oo w' ts F} hl => ?_⟩
  show (∃ cs', (Value.agg (List.toArray cs)) = .agg (List.toArray cs') ∧ Cs oo w' ts cs' F) ↔ _
  constructor
  · rintro ⟨cs', e, h⟩
    have : cs = cs' := by simpa using e
    subst this; exact h
  · intro h; exact ⟨cs, rfl, h⟩
theorem MkL.len {es : List E} {ts ts' : List T} {L : List (Nat × R)} (h : MkL σ es ts ts' L) : ts.length = es.length ∧ ts'.length = es.length := by
 induction h with
 | nil => simp
 | v _ ih => simp [ih.1, ih.2]
 | rf _ _ _ ih => simp [ih.1, ih.2]
theorem R_mark {f : FuncId} {xo ko : Operand} {tys : Array TypeId} {kv uv : Value} {A0 : A} {ts ts' : List T} {L : List (Nat × R)} (h : FnM P f (V0of A0 ts) kv (V0of A0 ts') uv) (ho : o.op = .call { callee := .value (.func f), args := [xo, ko].toArray, argTypes := tys }) (hg : o.guard = none) (hd : o.dst.all (fun d => Nat.blt d σ.n) = true)
 (hx : Get σ true xo A0) (hk : Get σ true ko (.one (.t (.v kv)))) (hm : MkL σ (cellsA A0) ts ts' L) : Op1 P ops o σ ((σ.updM L).put o.dst (true, .a (.one (.t (.v uv))))) := by
 rintro w0 a w ⟨I, hr⟩ K Q hK
 simp only [Region.wanted, hg, if_true]
 obtain ⟨hl1, hl2⟩ := hm.len
 have hva := hx.va hr rfl
 have hkv : a.eval ko = kv := hk.int hr rfl
 obtain ⟨cs, hes, hcs⟩ := V0of_r hva
 obtain ⟨F, g1, g2, g3, g4, g5⟩ := hm.own hr hes
 unfold Oper.wp
 rw [run_enter h.1 ho]
 have hcall := h.2.2 w (a.eval xo) F (hr.goodF fun b hb => by
  obtain ⟨i, hi, hb'⟩ := (g4 b).1 hb
  obtain ⟨r0, hr0⟩ := g5 i hi
  exact ((hr.own i r0 hr0).2 b hb').1) ((hcs hl1).2 g1) g2 g3
 rw [← hkv] at hcall
 refine hcall.mono fun e w' hR => ?_
 obtain ⟨rfl, F', h1, h2, h3, h4⟩ := hR
 have h1' := (hcs hl2).1 h1
 obtain ⟨NF, k1, k2, k3⟩ := hm.back hr hes h1' h2
 have hu : uv.oneCell' = true := h.2.1
 refine hK _ _ ⟨_, (hr.updM (L := L) (FF := F) g5 g4 h4 (fun i hi => ⟨(k1 i hi).1, fun b hb => ?_⟩) k2 k3).put (by exact hd) ⟨[], by unfold C; exact ⟨rfl, rfl, hu⟩, by simp⟩⟩
 have hb' := (k1 i hi).2 b hb
 refine ⟨?_, Cs.lt h1' b hb', (h3 b hb').2, (h3 b hb').1.symm⟩
 rcases (h3 b hb').1 with g | g
 · exact .inl (Nat.le_trans hr.ext.size g)
 · obtain ⟨j, hj, hbj⟩ := (g4 b).1 g
   obtain ⟨r0, h0⟩ := g5 j hj
   exact ((hr.own j r0 h0).2 b hbj).1
theorem R_load_sb {id k i p : Nat} {t : TypeId} {x : Operand} {rows : List (List T)} {row : List T} (ho : o.op = .load t x) (hg : Grd ops o σ q) (hd : o.dst.all (fun d => Nat.blt d σ.n) = true) (hx : Get σ q x (.one (.pr id k i p))) (hs : look σ.res id = some (.row k rows)) (hi : rows[i]? = some row) (ht : tyB P t false 1 = true)
 (hn : Nat.ble (p + 1) row.length = true) : Op1 P ops o σ (σ.put o.dst (q, .a (.one (.sb id k i p)))) :=
 .val hg hd fun I w0 a w hr hq => by
  obtain ⟨g, n', m', hg1, hv⟩ : VE I w (.pr id k i p) (a.eval x) := hx.va hr hq
  have hC : C true w (.sl k rows) _ _ := hr.res id _ hs
  simp only [C] at hC
  obtain ⟨a0, len, cap, g1, g2, g3, g4, g5⟩ := hC
  have hlt : i < rows.length := (List.getElem?_eq_some_iff.1 hi).1
  have hn' := Nat.le_of_ble_eq_true hn
  rcases g5 with ⟨g5, _⟩ | ⟨b, off, G, rfl, hF, g6, g7, g8⟩
  · omega
  · obtain ⟨rfl, cur, e, _⟩ := g7 trivial
    rw [hg1] at g1
    cases g1
    obtain ⟨G', k1, k2, k3⟩ := g8.get hi
    obtain ⟨G1, k4, k5⟩ := k1.drop p
    obtain ⟨G2, k6, k7⟩ := k4.take 1
    obtain ⟨vs, k8, k9, k10⟩ := Ms.cells k6
    have hl : ((row.drop p).take 1).length = 1 := by simp; omega
    have hc : ∀ (j : Nat) (u : Value), vs[j]? = some u → w.cell? ⟨g, i * k + p + j, none⟩ = some u := fun j u hj => by have := k10 j u hj; simpa using this
    match vs, k9.trans hl with
    | [c], _ =>
     refine ⟨c, by simp [execOp, ho, hv, run_load ht (cs := [c]) rfl (fun _ => rfl) hc], g, n', m', hg1, by rw [hF]; simp, g6, ?_⟩
     simpa using hc 0 c rfl
theorem R_mark_sb {id k i p k2 : Nat} {f : FuncId} {xo ko : Operand} {tys : Array TypeId} {kv uv : Value} {rows rows2 rows2' : List (List T)} {row : List T} (h : FnM P f (.one (.sl k2 rows2)) kv (.one (.sl k2 rows2')) uv) (ho : o.op = .call { callee := .value (.func f), args := [xo, ko].toArray, argTypes := tys }) (hg : o.guard = none) (hd : o.dst.all (fun d => Nat.blt d σ.n) = true)
 (hx : Get σ true xo (.one (.sb id k i p))) (hk : Get σ true ko (.one (.t (.v kv)))) (hs : look σ.res id = some (.row k rows)) (hi : rows[i]? = some row) (hp : row[p]? = some (.sl k2 rows2)) :
 Op1 P ops o σ ((σ.upd id (.row k (rows.set i (row.take p ++ .sl k2 rows2' :: row.drop (p + 1))))).put o.dst (true, .a (.one (.t (.v uv))))) := by
 rintro w0 a w ⟨I, hr⟩ K Q hK
 simp only [Region.wanted, hg, if_true]
 have hkv : a.eval ko = kv := hk.int hr rfl
 obtain ⟨g, n', m', hg1, hgF, hglt, hcell⟩ : VE I w (.sb id k i p) (a.eval xo) := hx.va hr rfl
 have hC : C true w (.sl k rows) _ _ := hr.res id _ hs
 have own := hr.own id _ hs
 simp only [C] at hC
 obtain ⟨a0, len, cap, g1, g2, g3, g4, g5⟩ := hC
 have hlti : i < rows.length := (List.getElem?_eq_some_iff.1 hi).1
 rcases g5 with ⟨g5, _⟩ | ⟨b, off, Gr, rfl, hF, g6, g7, g8⟩
 · omega
 obtain ⟨rfl, cur, e, hcur, hcs⟩ := g7 trivial
 rw [hg1] at g1
 cases g1
 rw [hF] at own
 obtain ⟨u1, xs, u2, u3, u4⟩ := g8.flat
 simp only [Nat.zero_add] at u4
 obtain ⟨s1, s2⟩ := set_split (row.take p ++ .sl k2 rows2' :: row.drop (p + 1)) hi
 obtain ⟨p1, _⟩ := set_split (.sl k2 rows2' : T) hp
 have hrk : row.length = k := u1 row (List.mem_of_getElem? hi)
 have hpl : p < row.length := (List.getElem?_eq_some_iff.1 hp).1
 have e1 : rows.flatten = ((rows.take i).flatten ++ row.take p) ++ ([.sl k2 rows2] ++ (row.drop (p + 1) ++ (rows.drop (i + 1)).flatten)) := by
  conv => lhs; rw [s1, p1]
  simp
 rw [e1] at u2
 obtain ⟨x1, x23, F1, F23, rfl, rfl, v1, v2, v3⟩ := u2.split
 obtain ⟨x2, x3, F2, F3, rfl, rfl, v4, v5, v6⟩ := v2.split
 match x2, v6 with
 | [c], _ =>
 have v4' : C true w (.sl k2 rows2) c F2 := by
  rw [Cs] at v4
  obtain ⟨c', cr, G1, G2, e, h1, h2, rfl⟩ := v4
  cases e
  rw [Cs] at h2
  obtain ⟨_, rfl⟩ := h2
  simpa using h1
 have hfl : ((rows.take i).flatten).length = i * k := by
  have key : ∀ (l : List (List T)), (∀ r ∈ l, r.length = k) → l.flatten.length = l.length * k := by
   intro l
   induction l with
   | nil => intro _; simp
   | cons r l ih => intro h; rw [List.flatten_cons, List.length_append, ih fun r hr => h r (by simp [hr]), h r (by simp), List.length_cons, Nat.succ_mul]; omega
  rw [key _ fun r hr => u1 r (List.mem_of_mem_take hr), List.length_take, Nat.min_eq_left (Nat.le_of_lt hlti)]
 have lx1 : x1.length = i * k + p := by rw [v3, List.length_append, hfl, List.length_take]; omega
 have hc : a.eval xo = c := by
  have := u4 (i * k + p) c (by rw [← lx1, List.getElem?_append_right (Nat.le_refl _), Nat.sub_self]; rfl)
  rw [this] at hcell
  exact (Option.some.inj hcell).symm
 have hnd := List.nodup_cons.1 own.1
 obtain ⟨d1, d23, d12⟩ := List.nodup_append.1 hnd.2
 obtain ⟨d2, d3, d23'⟩ := List.nodup_append.1 d23
 unfold Oper.wp
 rw [run_enter h.1 ho]
 have hcall := h.2.2 w c F2 (hr.goodF fun b hb => (own.2 b (by simp [hb])).1) v4' d2 fun b hb => (own.2 b (by simp [hb])).2
 rw [← hkv, ← hc] at hcall
 refine hcall.mono fun e' w' hR => ?_
 obtain ⟨rfl, F2', h1, h2, h3, h4⟩ := hR
 rw [hc] at h1
 have h1 : C true w' (.sl k2 rows2') c F2' := h1
 have hu : uv.oneCell' = true := h.2.1
 have hgn : g ∉ F2 := fun hm => hnd.1 (by simp [hm])
 have hsame : ∀ b, b < w.heap.size → b ∉ F2 → w'.heap[b]? = w.heap[b]? := h4.block
 have hg' : w'.heap[g]? = some (.cells cur e (0, 0)) := (hsame g g6 hgn).trans hcur
 have hF1 : ∀ b ∈ F1, b ∉ F2 := fun b hb hm => d12 b hb b (by simp [hm]) rfl
 have hF3 : ∀ b ∈ F3, b ∉ F2 := fun b hb hm => d23' b hm b hb rfl
 have lt1 : ∀ b ∈ F1, b < w.heap.size := fun b hb => Cs.lt v1 b hb
 have lt3 : ∀ b ∈ F3, b < w.heap.size := fun b hb => Cs.lt v5 b hb
 have hn2 : ∀ b ∈ F2', b ∉ F1 ∧ b ∉ F3 ∧ b ≠ g := fun b hb => by
  rcases (h3 b hb).1 with q | q
  · exact ⟨fun hm => by have := lt1 b hm; omega, fun hm => by have := lt3 b hm; omega, fun he => by omega⟩
  · exact ⟨fun hm => hF1 b hm q, fun hm => hF3 b hm q, fun he => hgn (he ▸ q)⟩
 have hch : Chg w w' (I.F id) := ⟨h4.os, h4.tape, h4.output, h4.size, fun b hb hn => hsame b hb fun hm => hn (by rw [hF]; simp [hm])⟩
 refine hK _ _ ⟨_, (hr.upd (G := g :: (F1 ++ (F2' ++ F3))) hs hch ⟨List.nodup_cons.2 ⟨fun hm => ?_, List.nodup_append.2 ⟨d1, List.nodup_append.2 ⟨h2, d3, fun b hb b' hb' e => (hn2 b hb).2.1 (e ▸ hb')⟩, fun b hb b' hb' e => ?_⟩⟩, fun b hb => ?_⟩ ?_).put (by exact hd) ⟨[], by unfold C; exact ⟨rfl, rfl, hu⟩, by simp⟩⟩
 · rcases List.mem_append.1 hm with hm | hm
   · exact hnd.1 (by simp [hm])
   · rcases List.mem_append.1 hm with hm | hm
     · exact (hn2 g hm).2.2 rfl
     · exact hnd.1 (by simp [hm])
 · subst e
   rcases List.mem_append.1 hb' with hm | hm
   · exact (hn2 b hm).1 hb
   · exact d12 b hb b (by simp [hm]) rfl
 · have hold : b = g ∨ b ∈ F1 ∨ b ∈ F3 → w0.own b ∧ b < w'.heap.size ∧ Thaw w' b ∧ (b ∈ I.F id ∨ w.heap.size ≤ b ∨ Free I w0 w b) := fun hm => by
    have hin : b ∈ g :: (F1 ++ (F2 ++ F3)) := by
     rcases hm with rfl | hm | hm
     · simp
     · simp [hm]
     · simp [hm]
    obtain ⟨o1, cc, ee, o2⟩ := own.2 b hin
    have hlt : b < w.heap.size := (Array.getElem?_eq_some_iff.1 o2).1
    have hnot : b ∉ F2 := by
     rcases hm with rfl | hm | hm
     · exact hgn
     · exact hF1 b hm
     · exact hF3 b hm
    exact ⟨o1, Nat.lt_of_lt_of_le hlt h4.size, ⟨cc, ee, (hsame b hlt hnot).trans o2⟩, .inl (by rw [hF]; exact hin)⟩
   rcases List.mem_cons.1 hb with hm | hm
   · exact hold (.inl hm)
   · rcases List.mem_append.1 hm with hm | hm
     · exact hold (.inr (.inl hm))
     · rcases List.mem_append.1 hm with hm | hm
       · refine ⟨?_, C.lt h1 b hm, (h3 b hm).2, ?_⟩
         · rcases (h3 b hm).1 with q | q
           · exact .inl (Nat.le_trans hr.ext.size q)
           · exact (own.2 b (by simp [q])).1
         · rcases (h3 b hm).1 with q | q
           · exact .inr (.inl q)
           · exact .inl (by rw [hF]; simp [q])
       · exact hold (.inr (.inr hm))
 · show C true _ _ _ _
   simp only [Ip.set, if_true]
   unfold C
   refine ⟨_, _, _, hg1, by simpa using g2, g3, g4, .inr ⟨g, 0, F1 ++ (F2' ++ F3), rfl, rfl, Nat.lt_of_lt_of_le g6 h4.size, fun _ => ⟨rfl, cur, e, hg', hcs⟩, Rws.of (xs := x1 ++ ([c] ++ x3)) (fun r hm => ?_) ?_ fun j u hj => ?_⟩⟩
   · rcases List.mem_or_eq_of_mem_set hm with hm | rfl
     · exact u1 r hm
     · simp only [List.length_append, List.length_take, List.length_cons, List.length_drop]
       omega
   · rw [s2]
     have ef : (rows.take i ++ (row.take p ++ .sl k2 rows2' :: row.drop (p + 1)) :: rows.drop (i + 1)).flatten = ((rows.take i).flatten ++ row.take p) ++ ([.sl k2 rows2'] ++ (row.drop (p + 1) ++ (rows.drop (i + 1)).flatten)) := by simp
     rw [ef]
     refine (v1.congr fun b hb => hsame b (lt1 b hb) (hF1 b hb)).append (Cs.append ?_ (v5.congr fun b hb => hsame b (lt3 b hb) (hF3 b hb)))
     unfold Cs
     exact ⟨c, [], F2', [], rfl, h1, by unfold Cs; exact ⟨rfl, rfl⟩, by simp⟩
   · rw [Nat.zero_add]
     exact (World.cell?_of_block (a := ⟨g, _, none⟩) (hsame g g6 hgn)).trans (u4 j u hj)
def hdsOf (hd : Nat → Value) (rs : List (Nat × R)) : List (Nat × R) := rs.map fun x => (x.1 - 500, .hdr (some x.1) (hd x.1))
theorem look_append {α : Type} : ∀ (l m : List (Nat × α)) (i : Nat), look (l ++ m) i = match look l i with | some x => some x | none => look m i
 | [], _, _ => rfl
 | (j, y) :: l, m, i => by
  rw [List.cons_append, look_cons, look_cons]
  by_cases e : j = i
  · rw [if_pos e, if_pos e]
  · rw [if_neg e, if_neg e]; exact look_append l m i
theorem RelI.heads {I : Ip} {w0 : Base} {w : World} {a : Act} (h : RelI I w0 σ a w) {hds : List (Nat × R)} (hh : ∀ i r, look hds i = some r → I.F i = [] ∧ ∃ j x, r = .hdr j x ∧ ∀ m, j = some m → I.hd m = x) : RelI I w0 ⟨σ.n, σ.slots, σ.res ++ hds⟩ a w := by
 have key : ∀ i r, look (σ.res ++ hds) i = some r → look σ.res i = some r ∨ look hds i = some r := fun i r hi => by
  rw [look_append] at hi
  split at hi
  · rename_i x hx; rw [hx]; exact .inl hi
  · exact .inr hi
 refine ⟨h.ext, h.defers, h.size, h.slots, fun i r hi => ?_, h.old, h.lt, fun i r hi => ?_, h.apart⟩
 · rcases key i r hi with hi | hi
   · exact h.res i r hi
   · obtain ⟨g1, j, x, rfl, g2⟩ := hh i r hi; exact ⟨g1, g2⟩
 · rcases key i r hi with hi | hi
   · exact h.own i r hi
   · rw [(hh i r hi).1]; simp
inductive Back (hd : Nat → Value) (σ : St) : List Nat → List E → List T → Prop where
 | nil : Back hd σ [] [] []
 | v {x : Value} {ids : List Nat} {es : List E} {ts : List T} (h : Back hd σ ids es ts) : Back hd σ ids (.t (.v x) :: es) (.v x :: ts)
 | rf {id k : Nat} {rows : List (List T)} {ids : List Nat} {es : List E} {ts : List T} (hs : look σ.res id = some (.row k rows)) (hh : look σ.res (id - 500) = some (.hdr (some id) (hd id))) (hn : memN ids id = false) (h : Back hd σ ids es ts) : Back hd σ (id :: ids) (.rf id :: es) (.sl k rows :: ts)
theorem Back.ok {hd : Nat → Value} {I : Ip} {w0 : Base} {w : World} {a : Act} (hr : RelI I w0 σ a w) {ids : List Nat} {es : List E} {ts : List T} (h : Back hd σ ids es ts) : ∀ {I0 : Ip} {w1 : World} {cs : List Value}, I0.hd = hd → VEs I0 w1 es cs →
 ∃ F, Cs true w ts cs F ∧ F.Nodup ∧ ∀ b ∈ F, ∃ i ∈ ids, ∃ r, look σ.res i = some r ∧ b ∈ I.F i := by
 induction h with
 | nil => intro I0 w1 cs _ hv; exact ⟨[], by unfold Cs; exact ⟨hv, rfl⟩, List.nodup_nil, by simp⟩
 | v h ih =>
  rintro I0 w1 cs e ⟨c, cr, rfl, h1, h2⟩
  obtain ⟨F, g1, g2, g3⟩ := ih e h2
  obtain ⟨G, k1, _⟩ := h1
  simp only [C] at k1
  obtain ⟨k1, rfl, k2⟩ := k1
  exact ⟨F, by unfold Cs; exact ⟨c, cr, [], F, rfl, by unfold C; exact ⟨k1, rfl, k2⟩, g1, rfl⟩, g2, g3⟩
 | @rf id k rows ids es ts hs hh hn h ih =>
  rintro I0 w1 cs e ⟨c, cr, rfl, h1, h2⟩
  obtain ⟨F, g1, g2, g3⟩ := ih e h2
  have hC : C true w (.sl k rows) (I.hd id) (I.F id) := hr.res id _ hs
  have hhd : I.hd id = hd id := (hr.res _ _ hh).2 id rfl
  have hc : c = I.hd id := by rw [hhd, ← e]; exact h1.1
  refine ⟨I.F id ++ F, by unfold Cs; exact ⟨c, cr, _, _, rfl, hc ▸ hC, g1, rfl⟩, List.nodup_append.2 ⟨(hr.own id _ hs).1, g2, fun x hx y hy e => ?_⟩, fun b hb => ?_⟩
  · subst e
    obtain ⟨j, hj, _, _, hb⟩ := g3 x hy
    exact hr.apart id j (fun e => memN_false.1 hn (e ▸ hj)) x hx hb
  · rcases List.mem_append.1 hb with hb | hb
    · exact ⟨id, by simp, _, hs, hb⟩
    · obtain ⟨j, hj, r, h3, h4⟩ := g3 b hb; exact ⟨j, by simp [hj], r, h3, h4⟩
def RetM (P : Program) (fn : Func) (hd : Nat → Value) (y : A) (ts : List T) (u : Value) : Exit → St → Prop
 | .normal, σ => Res P fn false (.a (.one (.v u))) σ ∧ ∃ ids, Back hd σ ids (cellsA y) ts
 | .ret, σ => Res P fn false (.a (.one (.v u))) σ ∧ ∃ ids, Back hd σ ids (cellsA y) ts
 | _, _ => False
theorem FnM.walk {n : Nat} {f : FuncId} {fn : Func} {c : Code} {x x' : V0} {k u : Value} {y : A} {ts : List T} {rs : List (Nat × R)} {R0 : (Nat → Value) → List (Nat × R)} (hf : P.funcs[f]? = some fn) (hb : fn.body = some c) (hname : (fn.name == "runtime.NumGoroutine") = false) (hnt : fn.ntmps = n) (hn : Nat.ble 2 n = true)
 (hk : k.oneCell' = true) (hu : u.oneCell' = true) (hy : outV0 1000 x = some (y, rs)) (hR : (fun hd => addsR rs [] ++ hdsOf hd rs) = R0) (hx' : V0of y ts = x') (hl : ts.length = (cellsA y).length) (hids : rs.all (fun x => Nat.ble 1000 x.1 && Nat.ble x.1 1400) = true)
 (h : LenV [x] → ∀ w0 hd, AW P w0 c (RetM P fn hd y ts u) ⟨n, [(0, (true, .a y)), (1, (true, .a (.one (.t (.v k)))))], R0 hd⟩) : FnM P f x k x' u := by
 subst hnt hR hx'
 refine ⟨⟨fn, hf, hname, by rw [hb]; rfl⟩, hu, fun w v F hG hv hnd hth => ?_⟩
 have hlen : LenV [x] := V0s.lenV (w := w) (vs := [v]) (F := F) ⟨v, [], F, [], rfl, hv.read, ⟨rfl, rfl⟩, by simp⟩
 have hn' : 2 ≤ fn.ntmps := Nat.le_of_ble_eq_true hn
 have hlt : ∀ b ∈ F, b < w.heap.size := V0r.lt hv
 let a0 : Act := ⟨(List.toArray [v, k]) ++ Array.replicate (fn.ntmps - (List.toArray [v, k]).size) undef, []⟩
 have hsz : a0.tmps.size = fn.ntmps := by simp [a0]; omega
 have h1v : a0.tmps.getD 1 undef = k := by simp [a0, Array.getD_eq_getD_getElem?, Array.getElem?_append]
 have h0v : a0.tmps.getD 0 undef = v := by simp [a0, Array.getD_eq_getD_getElem?, Array.getElem?_append]
 let I0 : Ip := ⟨fun b => b < w.heap.size ∧ b ∉ F, fun _ => [], fun _ => undef, fun _ => 0⟩
 have hr0 : RelI I0 ⟨w, F, hG⟩ ⟨fn.ntmps, [(1, (true, .a (.one (.t (.v k)))))], []⟩ a0 w := by
  refine ⟨Chg.refl w F, rfl, hsz, fun i z hi => ?_, fun id r hi => (by cases hi), fun b hb => hb.1, fun id b hb => (by cases hb), fun id r hi => (by cases hi), fun i j _ b hb => (by cases hb)⟩
  rw [look_cons] at hi
  by_cases e : 1 = i
  · subst e
    rw [if_pos rfl] at hi
    cases hi
    rw [h1v]
    exact ⟨[], by unfold C; exact ⟨rfl, rfl, hk⟩, by simp⟩
  · rw [if_neg e] at hi; cases hi
 have hfree : ∀ b ∈ F, Free I0 ⟨w, F, hG⟩ w b := fun b hb => ⟨.inr hb, hlt b hb, hth b hb, fun hz => hz.2 hb, fun i hi => by cases hi⟩
 obtain ⟨I1, r1, r2, r3, _⟩ := outV0_ok hy (by
  rw [List.all_eq_true] at hids ⊢
  intro z hz
  have h1 := hids z hz
  rfl) hr0 hv hnd hfree
 rw [adds_eq] at r1
 have r1' := r1.heads (hds := hdsOf I1.hd rs) fun i r hi => by
  have hm := look_mem hi
  obtain ⟨z, hz, e⟩ := List.mem_map.1 hm
  obtain ⟨rfl, rfl⟩ := Prod.mk.inj e
  have h1 := List.all_eq_true.1 hids z hz
  simp only [Bool.and_eq_true] at h1
  have h2 := Nat.le_of_ble_eq_true h1.1
  have h3 := Nat.le_of_ble_eq_true h1.2
  exact ⟨(r3.2 _ (by omega)).1, _, _, rfl, fun m hm => by cases hm; rfl⟩
 have r2' : RelI I1 ⟨w, F, hG⟩ ⟨fn.ntmps, [(0, (true, .a y)), (1, (true, .a (.one (.t (.v k)))))], addsR rs [] ++ hdsOf I1.hd rs⟩ a0 w := by
  refine ⟨r1'.ext, r1'.defers, r1'.size, fun i z hi => ?_, r1'.res, r1'.old, r1'.lt, r1'.own, r1'.apart⟩
  rw [look_cons] at hi
  by_cases e : 0 = i
  · subst e
    rw [if_pos rfl] at hi
    cases hi
    rw [h0v]; exact r2
  · rw [if_neg e] at hi; exact r1'.slots i z hi
 refine calls_of_wp hf hb (Code.wp_mono ?_ (h hlen ⟨w, F, hG⟩ I1.hd _ _ ⟨_, r2'⟩))
 rintro e a' w' ⟨σ, h1, I, hI⟩
 have key : (Res P fn false (.a (.one (.v u))) σ ∧ ∃ ids, Back I1.hd σ ids (cellsA y) ts) → a'.defers = [] ∧ ∃ v', (results fn a'.tmps).run P w' = .ok v' w' ∧ MkPost w (V0of y ts) u v F (.returned v') w' := fun ⟨h1, ids, h2⟩ => by
  obtain ⟨v', F', g1, g2, _⟩ := h1 I ⟨w, F, hG⟩ a' w' hI
  have hv' : v' = u := by unfold Vr V0r C at g2; exact g2.1
  subst hv'
  obtain ⟨cs, hes, hcs⟩ := V0of_r r2
  obtain ⟨F2, k1, k2, k3⟩ := h2.ok hI rfl hes
  refine ⟨hI.defers, _, g1, rfl, F2, (hcs hl).2 k1, k2, fun b hb => ?_, hI.ext⟩
  obtain ⟨i, _, r, h3, h4⟩ := k3 b hb
  exact (hI.own i r h3).2 b h4
 cases e with
 | normal => exact key h1
 | ret => exact key h1
 | exit id => exact h1.elim
 | goto l => exact h1.elim
 | panic c => exact h1.elim
 | outgrown => exact h1.elim
theorem R_markc {f : FuncId} {xo ko : Operand} {tys : Array TypeId} {kv uv : Value} {A0 : A} {x x' : V0} {ts ts' : List T} {L : List (Nat × R)} (ho : o.op = .call { callee := .value (.func f), args := [xo, ko].toArray, argTypes := tys }) (hg : o.guard = none) (hd : o.dst.all (fun d => Nat.blt d σ.n) = true)
 (hx : Get σ true xo A0) (hk : Get σ true ko (.one (.t (.v kv)))) (h : FnM P f x kv x' uv) (hm : MkL σ (cellsA A0) ts ts' L) (e1 : V0of A0 ts = x) (e2 : V0of A0 ts' = x') : Op1 P ops o σ ((σ.updM L).put o.dst (true, .a (.one (.t (.v uv))))) := by
 subst e1 e2
 exact R_mark h ho hg hd hx hk hm
theorem R_mark_sbc {id k i p k2 : Nat} {f : FuncId} {xo ko : Operand} {tys : Array TypeId} {kv uv : Value} {rows rows2 rows2' : List (List T)} {row : List T} (ho : o.op = .call { callee := .value (.func f), args := [xo, ko].toArray, argTypes := tys }) (hg : o.guard = none) (hd : o.dst.all (fun d => Nat.blt d σ.n) = true)
 (hx : Get σ true xo (.one (.sb id k i p))) (hk : Get σ true ko (.one (.t (.v kv)))) (hs : look σ.res id = some (.row k rows)) (hi : rows[i]? = some row) (hp : row[p]? = some (.sl k2 rows2)) (h : FnM P f (.one (.sl k2 rows2)) kv (.one (.sl k2 rows2')) uv) :
 Op1 P ops o σ ((σ.upd id (.row k (rows.set i (row.take p ++ .sl k2 rows2' :: row.drop (p + 1))))).put o.dst (true, .a (.one (.t (.v uv))))) := R_mark_sb h ho hg hd hx hk hs hi hp
variable {w0 : Base} {Q : Exit → St → Prop} {n : Nat} {sl : List (Nat × (Bool × S))} {rs : List (Nat × R)} {l : List Oper}
theorem AWl.marks {d : Nat} {L : List (Nat × R)} {x : Bool × S} (ho : Op1 P ops o ⟨n, sl, rs⟩ ((St.updM ⟨n, sl, rs⟩ L).put o.dst x)) (hd : o.dst = some d) (h : AWl P w0 ops Q l ⟨n, (d, x) :: puvSL (L.map (·.1)) sl, updRL L (L.map (·.1)) rs⟩) : AWl P w0 ops Q (o :: l) ⟨n, sl, rs⟩ :=
 AWl.op ho (by rw [hd]; exact h)
theorem AWl.updput {d id : Nat} {r : R} {x : Bool × S} (ho : Op1 P ops o ⟨n, sl, rs⟩ ((St.upd ⟨n, sl, rs⟩ id r).put o.dst x)) (hd : o.dst = some d) (h : AWl P w0 ops Q l ⟨n, (d, x) :: puvS id sl, updR id r rs⟩) : AWl P w0 ops Q (o :: l) ⟨n, sl, rs⟩ :=
 AWl.op ho (by rw [hd]; exact h)
theorem RetM.mk {fn : Func} {hd : Nat → Value} {y : A} {ts : List T} {u : Value} {ids : List Nat} (h1 : Res P fn false (.a (.one (.v u))) σ) (h2 : Back hd σ ids (cellsA y) ts) : Res P fn false (.a (.one (.v u))) σ ∧ ∃ ids, Back hd σ ids (cellsA y) ts := ⟨h1, ids, h2⟩
end
def mkL {α : Type} (f : α → Int → α) (c : α → Int) : List α → Int → List α
 | [], _ => []
 | x :: r, k => f x k :: mkL f c r (k + c x)
def cntL {α : Type} (c : α → Int) : List α → Int
 | [] => 0
 | x :: r => c x + cntL c r
theorem cntL_nonneg {α : Type} {c : α → Int} (h : ∀ x, 0 ≤ c x) : ∀ l : List α, 0 ≤ cntL c l
 | [] => Int.le_refl _
 | x :: r => Int.add_nonneg (h x) (cntL_nonneg h r)
theorem cntL_append {α : Type} {c : α → Int} : ∀ (l m : List α), cntL c (l ++ m) = cntL c l + cntL c m
 | [], m => by simp [cntL]
 | x :: l, m => by simp only [List.cons_append, cntL, cntL_append l m]; omega
theorem mkL_append {α : Type} {f : α → Int → α} {c : α → Int} : ∀ (l m : List α) (k : Int), mkL f c (l ++ m) k = mkL f c l k ++ mkL f c m (k + cntL c l)
 | [], m, k => by simp [mkL, cntL]
 | x :: l, m, k => by simp only [List.cons_append, mkL, cntL, mkL_append l m]; rw [show k + c x + cntL c l = k + (c x + cntL c l) by omega]
theorem mkL_length {α : Type} {f : α → Int → α} {c : α → Int} : ∀ (l : List α) (k : Int), (mkL f c l k).length = l.length
 | [], _ => rfl
 | x :: l, k => by simp [mkL, mkL_length l]
theorem take_at {α : Type} {l : List α} {i : Nat} {x : α} (h : l[i]? = some x) : l.take (i + 1) = l.take i ++ [x] := by
 obtain ⟨hi, rfl⟩ := List.getElem?_eq_some_iff.1 h
 exact List.take_succ_eq_append_getElem hi
theorem drop_at {α : Type} {l : List α} {i : Nat} {x : α} (h : l[i]? = some x) : l.drop i = x :: l.drop (i + 1) := by
 obtain ⟨hi, rfl⟩ := List.getElem?_eq_some_iff.1 h
 exact List.drop_eq_getElem_cons hi
theorem cntL_at {α : Type} {c : α → Int} {l : List α} {i : Nat} {x : α} (h : l[i]? = some x) : cntL c (l.take (i + 1)) = cntL c (l.take i) + c x := by
 rw [take_at h, cntL_append]; simp [cntL]
theorem cntL_le {α : Type} {c : α → Int} (hc : ∀ x, 0 ≤ c x) (l : List α) (i : Nat) : cntL c (l.take i) ≤ cntL c l := by
 conv => rhs; rw [← List.take_append_drop i l]
 rw [cntL_append]
 have := cntL_nonneg hc (l.drop i)
 omega
theorem cntL_all {α : Type} {c : α → Int} {l : List α} {i : Nat} (h : l.length ≤ i) : cntL c (l.take i) = cntL c l := by rw [List.take_of_length_le h]
theorem mkL_get {α : Type} {f : α → Int → α} {c : α → Int} {l : List α} {i : Nat} {x : α} {k : Int} (h : l[i]? = some x) : (mkL f c l k)[i]? = some (f x (k + cntL c (l.take i))) := by
 have hi : i < l.length := (List.getElem?_eq_some_iff.1 h).1
 have e : l = l.take i ++ x :: l.drop (i + 1) := by rw [← drop_at h, List.take_append_drop]
 conv => lhs; rw [e]
 rw [mkL_append, List.getElem?_append_right (by rw [mkL_length, List.length_take]; omega), mkL_length, List.length_take, Nat.min_eq_left (Nat.le_of_lt hi), Nat.sub_self]
 rfl
theorem mark_at {α β : Type} {f : α → Int → α} {c : α → Int} {l : List α} {i : Nat} {x : α} {k : Int} (g : α → β) (h : l[i]? = some x) : ((mkL f c (l.take i) k).map g ++ (l.drop i).map g)[i]? = some (g x) := by
 have hi : i < l.length := (List.getElem?_eq_some_iff.1 h).1
 rw [List.getElem?_append_right (by rw [List.length_map, mkL_length, List.length_take]; omega), List.length_map, mkL_length, List.length_take, Nat.min_eq_left (Nat.le_of_lt hi), Nat.sub_self, drop_at h]
 rfl
theorem mark_set {α β : Type} {f : α → Int → α} {c : α → Int} {l : List α} {i : Nat} {x : α} {k : Int} (g : α → β) (h : l[i]? = some x) {y : β} (hy : y = g (f x (k + cntL c (l.take i)))) : ((mkL f c (l.take i) k).map g ++ (l.drop i).map g).set i y = (mkL f c (l.take (i + 1)) k).map g ++ (l.drop (i + 1)).map g := by
 have hi : i < l.length := (List.getElem?_eq_some_iff.1 h).1
 subst hy
 rw [List.set_append_right _ _ (by rw [List.length_map, mkL_length, List.length_take]; omega), List.length_map, mkL_length, List.length_take, Nat.min_eq_left (Nat.le_of_lt hi), Nat.sub_self, drop_at h, take_at h, mkL_append]
 simp [mkL]
theorem mark_all {α β : Type} {f : α → Int → α} {c : α → Int} {l : List α} {i : Nat} {k : Int} (g : α → β) (h : l.length ≤ i) : (mkL f c (l.take i) k).map g ++ (l.drop i).map g = (mkL f c l k).map g := by
 rw [List.take_of_length_le h, List.drop_eq_nil_of_le h]; simp
theorem set_at {α : Type} {l : List α} {i : Nat} {x : α} (y : α) (h : l[i]? = some x) : (l.set i y)[i]? = some y := by
 obtain ⟨hi, _⟩ := List.getElem?_eq_some_iff.1 h
 rw [List.getElem?_set_self hi]
end Go.Q
