/- Merged texts. -/
import Derived.Test.YtbfejakbaijmhaaAbsOxg
import Derived.Test.YtbfejakbaijmhaaB42xg
import Derived.Test.YtbfejakbaijmhaaB19xg
import Derived.Test.YtbfejakbaijmhaaB18xg
import Derived.Test.YtbfejakbaijmhaaB05xg
import Derived.Test.YtbfejakbaijmhaaNilxg
import Derived.Test.YtbfejakbaijmhaaB54xg
set_option linter.unusedVariables false
set_option linter.unusedSimpArgs false
namespace Go.Q
open Go.RowKit
section
variable {P : Program}
/-- The entries of the graph yet to be shown. -/
structure MixD (P : Program) (l : List Oper) (n : Nat) (sl : List (Nat × (Bool × S))) (rs : List (Nat × R)) (outs : List Out) (acc : List (Nat × St)) (todo : List (Nat × List Nat)) (es : List (Nat × Nat × Nat)) (Fin : (Nat → St) → Prop) : Prop where
  pf : ∃ st : Nat → St, (∀ k σ, look acc k = some σ → st k = σ) ∧ (∀ p ∈ todo, Le (stL (memN p.2) 0 outs ⟨n, sl, rs⟩) (st p.1)) ∧ (∀ e ∈ es, ∀ o, l[e.2.1]? = some o → ∀ w0, AWl P w0 l.toArray (EndQ (st e.2.2)) [o] (st e.1)) ∧ Fin st
variable {l : List Oper} {n : Nat} {sl : List (Nat × (Bool × S))} {rs : List (Nat × R)} {outs : List Out} {acc : List (Nat × St)} {todo : List (Nat × List Nat)} {es : List (Nat × Nat × Nat)} {Fin : (Nat → St) → Prop}
theorem MixD.add {b : Nat} {S : List Nat} (σ' : St) (hb : look acc b = none) (hle : Le (stL (memN S) 0 outs ⟨n, sl, rs⟩) σ') (h : MixD P l n sl rs outs ((b, σ') :: acc) todo es Fin) : MixD P l n sl rs outs acc ((b, S) :: todo) es Fin := by
  obtain ⟨st, h1, h2, h3⟩ := h.pf
  have h1' : ∀ k σ, look acc k = some σ → st k = σ := fun k σ hk => h1 k σ (by
    rw [look_cons, if_neg (fun e => ?_)]
    · exact hk
    · subst e; rw [hb] at hk; cases hk)
  refine ⟨st, h1', fun p hp => ?_, h3⟩
  rcases List.mem_cons.1 hp with rfl | hp
  · show Le _ (st b)
    rw [h1 b σ' (by rw [look_cons, if_pos rfl])]
    exact hle
  · exact h2 p hp
theorem MixD.go (h : Dag P l acc es Fin) : MixD P l n sl rs outs acc [] es Fin := by
  obtain ⟨st, h1, h2, h3⟩ := h.pf
  exact ⟨st, h1, fun p hp => (by cases hp), h2, h3⟩
def FinX (P : Program) (w0 : Base) (Q : Exit → St → Prop) (N k : Nat) (B : Nat → List Nat) (es : List (Nat × Nat × Nat)) (todo : List (Nat × List Nat)) (l : List Oper) (n : Nat) (sl : List (Nat × (Bool × S))) (rs : List (Nat × R)) (outs : List Out) : Prop :=
  delS (outs.map (·.1)) sl = sl ∧ outB B ⟨n, sl, rs⟩ outs = true ∧ MixD P l n sl rs outs [] todo es (fun st => AWl P w0 l.toArray Q (l.drop N) (st k))
theorem FinX.mk {w0 : Base} {Q : Exit → St → Prop} {N k : Nat} {B : Nat → List Nat} (hd : delS (outs.map (·.1)) sl = sl) (hU : outB B ⟨n, sl, rs⟩ outs = true) (h : MixD P l n sl rs outs [] todo es (fun st => AWl P w0 l.toArray Q (l.drop N) (st k))) : FinX P w0 Q N k B es todo l n sl rs outs := ⟨hd, hU, h⟩
end
end Go.Q
set_option linter.unusedVariables false
set_option linter.unusedSimpArgs false
set_option maxHeartbeats 1000000
set_option maxRecDepth 100000
namespace Go.Q
open Go.D
section
variable {E : Nat → List (Int × Int)} {G : Nat → Bool} {N : Nat} {O : List Int}
/-- The list that such a search ends with. -/
noncomputable def leastL (E : Nat → List (Int × Int)) (G : Nat → Bool) (N : Nat) : List Int :=
  open Classical in if h : ∃ O, CI E G N O ∧ ∀ i, i < N → ∀ e ∈ E i, fixd O i e then Classical.choose h else []
theorem leastL_eq (hE : ∀ i, i < N → ∀ e ∈ E i, 0 ≤ e.1 ∧ e.1 < N) (h : CI E G N O) (hf : ∀ i, i < N → ∀ e ∈ E i, fixd O i e) : leastL E G N = O := by
  have hx : ∃ O, CI E G N O ∧ ∀ i, i < N → ∀ e ∈ E i, fixd O i e := ⟨O, h, hf⟩
  unfold leastL
  rw [dif_pos hx]
  obtain ⟨h1, h2⟩ := Classical.choose_spec hx
  refine List.ext_getElem? fun i => ?_
  by_cases hi : i < N
  · have e := CI.same h1 h hE h2 hf hi
    have g1 := atI_get (out := Classical.choose hx) (k := (i : Int)) (by rw [h1.len]; simpa using hi)
    have g2 := atI_get (out := O) (k := (i : Int)) (by rw [h.len]; simpa using hi)
    simp only [Int.toNat_natCast] at g1 g2
    rw [g1, g2, e]
  · rw [List.getElem?_eq_none (by rw [h1.len]; omega), List.getElem?_eq_none (by rw [h.len]; omega)]
end
def edgeOf (g : TGraph) (n : Int) (l : List Int) (s : TProductStep) : Int × Int := (s.Node * n + s.State, stepCost g l s.Step)
def edgesOf (g : TGraph) (a : TAutomaton) (l : List Int) (i : Nat) : List (Int × Int) := (stepsOf g a ((i : Int) / a.Accept.length) ((i : Int) % a.Accept.length)).map (edgeOf g a.Accept.length l)
def goalOf (g : TGraph) (a : TAutomaton) (y : Int) (i : Nat) : Bool := decide ((i : Int) / a.Accept.length = y) && acc a ((i : Int) % a.Accept.length) (g.Values[((i : Int) / a.Accept.length).toNat]?.getD 0)
noncomputable def costsOf (g : TGraph) (a : TAutomaton) (l : List Int) (y : Int) : List Int := leastL (edgesOf g a l) (goalOf g a y) (a.Accept.length * g.Values.length)
end Go.Q
set_option linter.unusedVariables false
set_option linter.unusedSimpArgs false
namespace Go.Q
open Go.RowKit
section
variable {u v : Nat} {I : Ip} {w : World}
end
theorem Le.trans {σ σ' σ'' : St} (h1 : Le σ σ') (h2 : Le σ' σ'') : Le σ σ'' := fun w0 a w h => h2 w0 a w (h1 w0 a w h)
section
variable {Q : Exit → St → Prop} {σ : St}
theorem ThenQ.ex {K : St → Prop} {i : Nat} (h : Q (.exit i) σ) : ThenQ K Q (.exit i) σ := h
theorem Round1.ex {β1 : Type} {Inv : β1 → Prop} {J : β1 → St} {m : β1 → Nat} {a1 : β1} {i : Nat} (h : Q (.exit i) σ) : Round1 Inv J m a1 Q (.exit i) σ := h
theorem Round2.ex {β1 β2 : Type} {Inv : β1 → β2 → Prop} {J : β1 → β2 → St} {m : β1 → β2 → Nat} {a1 : β1} {a2 : β2} {i : Nat} (h : Q (.exit i) σ) : Round2 Inv J m a1 a2 Q (.exit i) σ := h
theorem Round3.ex {β1 β2 β3 : Type} {Inv : β1 → β2 → β3 → Prop} {J : β1 → β2 → β3 → St} {m : β1 → β2 → β3 → Nat} {a1 : β1} {a2 : β2} {a3 : β3} {i : Nat} (h : Q (.exit i) σ) : Round3 Inv J m a1 a2 a3 Q (.exit i) σ := h
theorem Round4.ex {β1 β2 β3 β4 : Type} {Inv : β1 → β2 → β3 → β4 → Prop} {J : β1 → β2 → β3 → β4 → St} {m : β1 → β2 → β3 → β4 → Nat} {a1 : β1} {a2 : β2} {a3 : β3} {a4 : β4} {i : Nat} (h : Q (.exit i) σ) : Round4 Inv J m a1 a2 a3 a4 Q (.exit i) σ := h
theorem Round5.ex {β1 β2 β3 β4 β5 : Type} {Inv : β1 → β2 → β3 → β4 → β5 → Prop} {J : β1 → β2 → β3 → β4 → β5 → St} {m : β1 → β2 → β3 → β4 → β5 → Nat} {a1 : β1} {a2 : β2} {a3 : β3} {a4 : β4} {a5 : β5} {i : Nat} (h : Q (.exit i) σ) : Round5 Inv J m a1 a2 a3 a4 a5 Q (.exit i) σ := h
end
section
variable {P : Program} {ops : Array Oper} {o : Oper} {σ : St} {q : Bool}
end
end Go.Q
set_option linter.unusedVariables false
set_option linter.unusedSimpArgs false
set_option maxHeartbeats 1000000
set_option maxRecDepth 100000
namespace Go.Q
open Go.D
end Go.Q
namespace Go.Proofs.Ytbfejakbaijmhaa
open Go.RowKit Go.Q Go.D
end Go.Proofs.Ytbfejakbaijmhaa
set_option linter.unusedVariables false
set_option linter.unusedSimpArgs false
set_option maxHeartbeats 1000000
set_option maxRecDepth 100000
namespace Go.Q
open Go.D
end Go.Q
namespace Go.Proofs.Ytbfejakbaijmhaa
open Go.RowKit Go.Q Go.D
end Go.Proofs.Ytbfejakbaijmhaa
set_option linter.unusedVariables false
set_option linter.unusedSimpArgs false
namespace Go.Q
open Go.RowKit
theorem Ms_of {I : Ip} {w : World} {b : Nat} : ∀ (xs : List T) (vs : List Value) (off : Nat), VEs I w (xs.map .t) vs → (∀ j v, vs[j]? = some v → w.cell? ⟨b, off + j, none⟩ = some v) → ∃ G, Ms false w b off xs G ∧ ∀ q ∈ G, I.Z q
  | [], _, _, _, _ => ⟨[], by simp only [Ms], by simp⟩
  | x :: xs, vs, off, ⟨c, cr, e, ⟨G1, k1, k2⟩, h3⟩, hc => by
    subst e
    obtain ⟨G2, g1, g2⟩ := Ms_of xs cr (off + 1) h3 fun j v hj => by
      have := hc (j + 1) v (by simpa using hj)
      rwa [show off + (j + 1) = off + 1 + j by omega] at this
    refine ⟨G1 ++ G2, ?_, fun q hq => ?_⟩
    · simp only [Ms]
      exact ⟨c, G1, G2, hc 0 c rfl, k1, g1, rfl⟩
    · rcases List.mem_append.1 hq with hq | hq
      · exact k2 q hq
      · exact g2 q hq
theorem Le.frz (id d : Nat) {n : Nat} {sl : List (Nat × (Bool × S))} {rs : List (Nat × R)} {xs : List T} {cs : List E} (h1 : look rs id = some (.box cs)) (hcs : cs = xs.map .t) (h2 : look sl d = some (true, .a (.one (.pp id 0)))) :
    Le ⟨n, sl, rs⟩ ⟨n, (d, (true, .a (.one (.t (.ad xs))))) :: ((⟨n, sl, rs⟩ : St).chg id (.hdr none undef)).slots, ((⟨n, sl, rs⟩ : St).chg id (.hdr none undef)).res⟩ := by
  rintro w0 a w ⟨I, hr⟩
  subst hcs
  have hbox := hr.res id _ h1
  obtain ⟨hF, vs, e, hb, hvs⟩ := hbox
  have hpp : VS I w (true, .a (.one (.pp id 0))) (a.tmps.getD d undef) := hr.slots d _ h2
  have hpp : a.tmps.getD d undef = .pointer (some ⟨I.B id, 0, none⟩) := hpp
  have hlt : I.B id < w.heap.size := (Array.getElem?_eq_some_iff.1 hb).1
  have s1 := hr.chg h1 (Chg.refl w _) (G := []) (u := undef) (r := .hdr none undef) ⟨List.nodup_nil, by simp⟩ ⟨by simp [Ip.set], fun i h => by cases h⟩
  have hno : ∀ i, I.B id ∉ (I.set id [] undef (I.B id)).F i := fun i hi => by
    by_cases e : i = id
    · subst e; simp [Ip.set] at hi
    · simp only [Ip.set, if_neg e] at hi
      exact hr.apart i id e _ hi (by rw [hF]; simp)
  have s2 := s1.also (G := [I.B id]) fun b hb' => by
    rw [List.mem_singleton] at hb'; subst hb'
    exact ⟨hlt, hno⟩
  obtain ⟨G, g1, g2⟩ := Ms_of (b := I.B id) xs vs 0 hvs fun j v hj => by
    rw [Nat.zero_add]
    simp [World.cell?, hb, hj]
  refine ⟨_, ⟨s2.ext, s2.defers, s2.size, fun i x hx => ?_, s2.res, s2.old, s2.lt, s2.own, s2.apart⟩⟩
  rw [look_cons] at hx
  by_cases ei : d = i
  · rw [if_pos ei] at hx
    cases hx
    subst ei
    refine ⟨I.B id :: G, ?_, fun b hb' => ?_⟩
    · rw [hpp]
      simp only [C]
      exact ⟨I.B id, 0, G, rfl, rfl, hlt, g1⟩
    · rcases List.mem_cons.1 hb' with rfl | hb'
      · exact .inr (by simp)
      · exact .inl (g2 b hb')
  · rw [if_neg ei] at hx
    exact s2.slots i x hx
end Go.Q
set_option linter.unusedVariables false
set_option linter.unusedSimpArgs false
namespace Go.Q
open Go.RowKit
section
variable {P : Program} {ops : Array Oper} {o : Oper} {σ : St} {q : Bool}
end
end Go.Q
set_option linter.unusedVariables false
set_option linter.unusedSimpArgs false
namespace Go.Q
open Go.RowKit
section
variable {P : Program} {ops : Array Oper} {o : Oper} {σ : St}
theorem R_load_hd {d nid hid k : Nat} {c0 : Value} {rows : List (List T)} (h : Op1 P ops o σ (σ.put o.dst (true, .a (.one (.t (.v c0)))))) (hdst : o.dst = some d) (hh : look σ.res hid = some (.hdr (some nid) c0)) (hs : look σ.res nid = some (.row k rows)) :
    Op1 P ops o σ (σ.put o.dst (true, .a (.one (.rf nid)))) := fun w0 a w hr K Q hK => h w0 a w hr K Q fun a' w' hr' => hK a' w' (by
  rw [hdst] at hr' ⊢
  obtain ⟨I, g⟩ := hr'
  refine ⟨I, g.ext, g.defers, g.size, fun i x hi => ?_, g.res, g.old, g.lt, g.own, g.apart⟩
  have hi2 : look ((d, (true, S.a (.one (.rf nid)))) :: σ.slots) i = some x := hi
  clear hi
  rw [look_cons] at hi2
  by_cases e : d = i
  · subst e
    rw [if_pos rfl] at hi2
    cases hi2
    have h1 : VS I w' (true, .a (.one (.t (.v c0)))) (a'.tmps.getD d undef) := g.slots d _ (by show look ((d, _) :: σ.slots) d = _; rw [look_cons, if_pos rfl])
    obtain ⟨G, k1, _⟩ : VE I w' (.t (.v c0)) (a'.tmps.getD d undef) := h1
    simp only [C] at k1
    have k2 : I.hd nid = c0 := (g.res _ _ hh).2 nid rfl
    have hC : C true w' (.sl k rows) (I.hd nid) (I.F nid) := g.res nid _ hs
    simp only [C] at hC
    obtain ⟨a1, l1, c1, e1, _⟩ := hC
    exact show VE I w' (.rf nid) _ from ⟨by rw [k1.1, k2], a1, l1, c1, by rw [k1.1, ← k2, e1]⟩
  · rw [if_neg e] at hi2
    exact g.slots i x (by show look ((d, _) :: σ.slots) i = _; rw [look_cons, if_neg e]; exact hi2))
theorem R_load_hdr {d nid hid k2 : Nat} {c0 : Value} {rows2 : List (List T)} {id k i p : Nat} {t : TypeId} {x : Operand} {rows : List (List T)} {row : List T} {ag : Bool} {n : Nat} (ho : o.op = .load t x) (hg : Grd ops o σ true) (hd : o.dst.all (fun d => Nat.blt d σ.n) = true) (hx : Get σ true x (.one (.pr id k i p))) (hs : look σ.res id = some (.row k rows)) (hi : rows[i]? = some row) (ht : tyB P t ag n = true)
    (hn : Nat.ble (p + n) row.length = true) (h1 : (ag || Nat.beq n 1) = true) (hc : mkA ag (((row.drop p).take n).map (toE id)) = .one (.t (.v c0))) (hdst : o.dst = some d) (hh : look σ.res hid = some (.hdr (some nid) c0)) (hs2 : look σ.res nid = some (.row k2 rows2)) :
    Op1 P ops o σ (σ.put o.dst (true, .a (.one (.rf nid)))) :=
  R_load_hd (c0 := c0) (by have := R_load_pr ho hg hd hx hs hi ht hn h1; rw [hc] at this; exact this) hdst hh hs2
end
end Go.Q
