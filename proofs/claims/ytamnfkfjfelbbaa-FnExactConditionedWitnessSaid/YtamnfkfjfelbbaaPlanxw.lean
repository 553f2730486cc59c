import Derived.Test.YtamnfkfjfelbbaaTabxw
set_option linter.unusedVariables false
set_option linter.unusedSimpArgs false
namespace Go.Q
open Go.RowKit
open Rd (rd)

def Later (w : World) : Type := { w' : World // Ext w w' }
instance {w : World} : Nonempty (Later w) := ⟨⟨w, Ext.refl w⟩⟩
instance {w : World} : Inhabited (Later w) := ⟨⟨w, Ext.refl w⟩⟩
theorem Later.cell {w : World} {p : Addr} {v : Value} (hc : w.cell? p = some v) : ∀ x : Later w, x.1.cell? p = some v := fun x => x.2.cell hc
theorem Later.ext {w : World} (x : Later w) : Ext w x.1 := x.2

structure MP where
 on : List Nat
 p : (Nat → Value) → Value → World → Prop
 mono : ∀ {vs v w w'}, p vs v w → Ext w w' → p vs v w'
 loc : ∀ {vs vs' v w}, (∀ j ∈ on, vs' j = vs j) → p vs v w → p vs' v w
def MP.is (u : Value) : MP := ⟨[], fun _ v _ => v = u, fun h _ => h, fun _ h => h⟩
def MP.any : MP := ⟨[], fun _ _ _ => True, fun h _ => h, fun _ h => h⟩
def MP.vl {α : Type} [Rd α] (x : α) : MP := ⟨[], fun _ v w => ∃ F, Vl w v x F, fun ⟨F, h⟩ he => ⟨F, h.mono he⟩, fun _ h => h⟩
theorem Thaw.mono {w w' : World} {b : Nat} (h : Thaw w b) (he : Ext w w') : Thaw w' b := by
 obtain ⟨c, e, h⟩ := h
 exact ⟨c, e, (he.block (Array.getElem?_eq_some_iff.1 h).1).trans h⟩
theorem New.mono {α : Type} [Rd α] {w w' w'' : World} {v : Value} {x : α} (h : New w w' v x) (he : Ext w' w'') : New w w'' v x :=
 let ⟨F, h1, h2, h3⟩ := h; ⟨F, h1.mono he, fun b hb => ⟨(h2 b hb).1, (h2 b hb).2.mono he⟩, h3⟩
theorem New.old {α : Type} [Rd α] {w0 w w' : World} {v : Value} {x : α} (h : New w w' v x) (he : Ext w0 w) : New w0 w' v x :=
 let ⟨F, h1, h2, h3⟩ := h; ⟨F, h1, fun b hb => ⟨Nat.le_trans he.size (h2 b hb).1, (h2 b hb).2⟩, h3⟩
theorem New.vl {α : Type} [Rd α] {w w' : World} {v : Value} {x : α} (h : New w w' v x) : ∃ F, Vl w' v x F := let ⟨F, h1, _⟩ := h; ⟨F, h1⟩
def MP.new {α : Type} [Rd α] (w0 : World) (x : α) : MP := ⟨[], fun _ v w => New w0 w v x, fun h he => h.mono he, fun _ h => h⟩

def dstAt (ops : Array Oper) (i : Nat) : Option Tmp := (ops[i]?).bind (·.dst)
def deps (o : Oper) : List Nat := (o.after.toList.filter (Region.binds .any ·)).map (·.on)

theorem mem_deps {o : Oper} {j : Nat} : j ∈ deps o ↔ ∃ e ∈ o.after, Region.binds .any e = true ∧ e.on = j := by
 simp [deps, List.mem_filter, and_assoc]

def unl (N : Nat) (listed : Array Bool) : Nat := (List.range N).countP fun j => !listed.getD j false
theorem unl_set (listed : Array Bool) (i : Nat) (hu : listed.getD i false = false) (hs : i < listed.size) : ∀ N, unl N listed = unl N (listed.setIfInBounds i true) + if i < N then 1 else 0
 | 0 => by simp [unl]
 | N + 1 => by
  have ih := unl_set listed i hu hs N
  unfold unl at *
  rw [List.range_succ, List.countP_append, List.countP_append]
  simp only [List.countP_cons, List.countP_nil, Nat.zero_add]
  by_cases hiN : i = N
  · subst hiN
    have h1 : (listed.setIfInBounds i true).getD i false = true := by simp [hs]
    rw [ih, h1, hu]
    simp
  · rw [getD_set_ne false hiN, ih]
    have e : (i < N + 1) = (i < N) := propext ⟨fun h => by omega, fun h => by omega⟩
    simp only [e]
    omega

section
variable {P : Program} {ops : Array Oper} {N : Nat}

structure PlanInv (ops : Array Oper) (N : Nat) (Φ : Nat → MP) (a0 : Act) (w0 : World) (listed : Array Bool) (a : Act) (w : World) : Prop where
 head : HeadInv .any ops N listed
 size : a.tmps.size = a0.tmps.size
 defers : a.defers = a0.defers
 ext : Ext w0 w
 vals : ∃ vs : Nat → Value, (∀ j, j < N → listed.getD j false = true → (Φ j).p vs (vs j) w ∧ ∀ t, dstAt ops j = some t → t < a0.tmps.size → a.tmps.getD t undef = vs j) ∧
  ∀ t, (∀ j, j < N → listed.getD j false = true → dstAt ops j ≠ some t) → a.tmps.getD t undef = a0.tmps.getD t undef

end
end Go.Q
