import Derived.Test.YtbkhopfpejhnlaaGreatDoorAbs7da
set_option linter.unusedVariables false
set_option linter.unusedSimpArgs false
namespace Go.Q
open Go.RowKit
section
variable {P : Program} {ops : Array Oper} {o : Oper} {σ : St} {q : Bool}
def outL : Nat → List T → Option (List E × List (Nat × R))
 | _, [] => some ([], [])
 | n, t :: r => match t with
  | .v x => (match outL n r with | some (es, rs) => some (.t (.v x) :: es, rs) | none => none)
  | .sl k rows => (match outL (n + 1) r with | some (es, rs) => some (.rf n :: es, (n, .row k rows) :: rs) | none => none)
  | _ => none
def St.adds (σ : St) : List (Nat × R) → St
 | [] => σ
 | (id, r) :: l => (σ.add id r).adds l
def Ip.same (I I' : Ip) (n : Nat) : Prop := I'.Z = I.Z ∧ ∀ i, i < n → I'.F i = I.F i ∧ I'.hd i = I.hd i ∧ I'.B i = I.B i
theorem outL_ge : ∀ {ts : List T} {n : Nat} {es : List E} {rs : List (Nat × R)}, outL n ts = some (es, rs) → ∀ x ∈ rs, n ≤ x.1
 | [], n, es, rs, h, x, hx => by simp only [outL, Option.some.injEq, Prod.mk.injEq] at h; rw [← h.2] at hx; cases hx
 | t :: r, n, es, rs, h, x, hx => by
  match t, h with
  | .v y, h =>
   rw [outL] at h
   split at h
   · rename_i h1
     simp only [Option.some.injEq, Prod.mk.injEq] at h
     obtain ⟨_, rfl⟩ := h
     exact outL_ge h1 x hx
   · cases h
  | .sl k rows, h =>
   rw [outL] at h
   split at h
   · rename_i h1
     simp only [Option.some.injEq, Prod.mk.injEq] at h
     obtain ⟨_, rfl⟩ := h
     rcases List.mem_cons.1 hx with rfl | hx
     · exact Nat.le_refl _
     · have := outL_ge h1 x hx; omega
   · cases h
  | .ad _, h => cases h
  | .fn _ _ _, h => cases h
theorem has_add {σ : St} {id m k : Nat} {rows : List (List T)} (h : σ.has m = false) (hm : id ≠ m) : (σ.add id (.row k rows)).has m = false := by
 have : Nat.beq id m = false := by
  cases hb : Nat.beq id m with
  | false => rfl
  | true => exact absurd (Nat.eq_of_beq_eq_true hb) hm
 simp only [St.has, St.add, Bool.or_eq_false_iff, List.any_cons] at h ⊢
 exact ⟨h.1, by simp [this, R.has], h.2⟩
theorem outL_ok {w0 : Base} {w : World} {a : Act} : ∀ {ts : List T} {n : Nat} {es : List E} {rs : List (Nat × R)} {σ : St} {I : Ip} {cs : List Value} {G : List Nat}, outL n ts = some (es, rs) → (rs.all fun x => !σ.has x.1) = true → RelI I w0 σ a w → Cs true w ts cs G → G.Nodup → (∀ b ∈ G, Free I w0 w b) →
 ∃ I', RelI I' w0 (σ.adds rs) a w ∧ VEs I' w es cs ∧ I.same I' n ∧ ∀ b, Free I w0 w b → b ∉ G → Free I' w0 w b
 | [], n, es, rs, σ, I, cs, G, h, _, hr, hC, _, _ => by
  simp only [outL, Option.some.injEq, Prod.mk.injEq] at h
  obtain ⟨rfl, rfl⟩ := h
  simp only [Cs] at hC
  exact ⟨I, hr, hC.1, ⟨rfl, fun _ _ => ⟨rfl, rfl, rfl⟩⟩, fun b hb _ => hb⟩
 | t :: r, n, es, rs, σ, I, cs, G, h, hf, hr, hC, hn, hG => by
  simp only [Cs] at hC
  obtain ⟨c, cr, G1, G2, rfl, h2, h3, rfl⟩ := hC
  match t, h, h2 with
  | .v y, h, h2 =>
   rw [outL] at h
   split at h
   · rename_i h1
     simp only [Option.some.injEq, Prod.mk.injEq] at h
     obtain ⟨rfl, rfl⟩ := h
     simp only [C] at h2
     obtain ⟨h4, rfl, h5⟩ := h2
     obtain ⟨I', g1, g2, g3, g4⟩ := outL_ok h1 hf hr h3 (by simpa using hn) (by simpa using hG)
     exact ⟨I', g1, ⟨c, cr, rfl, ⟨[], by unfold C; exact ⟨h4, rfl, h5⟩, by simp⟩, g2⟩, g3, by simpa using g4⟩
   · cases h
  | .sl k rows, h, h2 =>
   rw [outL] at h
   split at h
   · rename_i es' rs' h1
     simp only [Option.some.injEq, Prod.mk.injEq] at h
     obtain ⟨rfl, rfl⟩ := h
     simp only [List.all_cons, Bool.and_eq_true, Bool.not_eq_true', List.all_eq_true] at hf
     have hna := List.nodup_append.1 hn
     have ha := hr.addF (id := n) (u := c) (b := 0) hf.1 hna.1 (fun b hb => hG b (by simp [hb])) (r := .row k rows) (by show C true w _ _ _; simpa [Ip.set] using h2)
     obtain ⟨I', g1, g2, g3, g4⟩ := outL_ok (σ := σ.add n (.row k rows)) h1 (by
      rw [List.all_eq_true]
      intro x hx
      have := outL_ge h1 x hx
      simpa using has_add (hf.2 x hx) (show n ≠ x.1 by omega)) ha h3 hna.2.1 (fun b hb => (hG b (by simp [hb])).set fun hm => hna.2.2 b hm b hb rfl)
     refine ⟨I', g1, ⟨c, cr, rfl, ?_, g2⟩, ⟨g3.1, fun i hi => ?_⟩, fun b hb hm => g4 b (hb.set fun h => hm (by simp [h])) fun h => hm (by simp [h])⟩
     · refine ⟨?_, ?_⟩
       · rw [(g3.2 n (by omega)).2.1]; simp [Ip.set]
       · simp only [C] at h2; obtain ⟨a', l', k', e, _⟩ := h2; exact ⟨a', l', k', e⟩
     · obtain ⟨e1, e2, e3⟩ := g3.2 i (by omega)
       rw [e1, e2, e3]
       simp [Ip.set, show i ≠ n by omega]
   · cases h
  | .ad _, h, _ => cases h
  | .fn _ _ _, h, _ => cases h
def outV0 (n : Nat) : V0 → Option (A × List (Nat × R))
 | .one t => match outL n [t] with | some ([e], rs) => some (.one e, rs) | _ => none
 | .agg l => match outL n l with | some (es, rs) => some (.agg es, rs) | none => none
theorem outV0_ok {w0 : Base} {w : World} {a : Act} {x : V0} {n : Nat} {y : A} {rs : List (Nat × R)} {I : Ip} {v : Value} {G : List Nat} (h : outV0 n x = some (y, rs)) (hf : (rs.all fun x => !σ.has x.1) = true) (hr : RelI I w0 σ a w) (hC : V0r true w x v G) (hn : G.Nodup) (hG : ∀ b ∈ G, Free I w0 w b) :
 ∃ I', RelI I' w0 (σ.adds rs) a w ∧ VA I' w y v ∧ I.same I' n ∧ ∀ b, Free I w0 w b → b ∉ G → Free I' w0 w b := by
 cases x with
 | one t =>
  rw [outV0] at h
  split at h
  · rename_i e rs' h1
    simp only [Option.some.injEq, Prod.mk.injEq] at h
    obtain ⟨rfl, rfl⟩ := h
    have hC' : Cs true w [t] [v] G := by unfold Cs; exact ⟨v, [], G, [], rfl, hC, by simp [Cs], by simp⟩
    obtain ⟨I', g1, g2, g3, g4⟩ := outL_ok h1 hf hr hC' hn hG
    obtain ⟨c, cr, e1, g5, _⟩ := g2
    cases e1
    exact ⟨I', g1, g5, g3, g4⟩
  · cases h
 | agg l =>
  rw [outV0] at h
  split at h
  · rename_i es rs' h1
    simp only [Option.some.injEq, Prod.mk.injEq] at h
    obtain ⟨rfl, rfl⟩ := h
    obtain ⟨cs, e1, hC⟩ := hC
    obtain ⟨I', g1, g2, g3, g4⟩ := outL_ok h1 hf hr hC hn hG
    exact ⟨I', g1, ⟨cs, e1, g2⟩, g3, g4⟩
  · cases h
end
end Go.Q
