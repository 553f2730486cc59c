/- Functions that move headers, lifted to slices of slices: two owned things; calls that read what stands behind headers. -/
import Derived.Test.YtoealglkenhphaaAbsZxa
set_option linter.unusedVariables false
set_option linter.unusedSimpArgs false
namespace Go.Q
open Go.RowKit
section
variable {P : Program}
theorem KT.cell {K : List (Nat × Obj)} {t : T} {h : Value} {w : World} (hk : KT K t h) (hw : Keeps w K) : h.oneCell' = true := by
  obtain ⟨G, hC⟩ := hk w hw
  exact hC.cell1
/-- Headers in place of what stands behind them. -/
theorem FrTk.of2 {f : FuncId} {K : List (Nat × Obj)} {tx ty : T} {vx vy : Value} {rest : List V0} {out : V} (h : FrT P f (.one tx :: .one ty :: rest) out) (hx : KT K tx vx) (hy : KT K ty vy) : FrTk P f K (.one (.v vx) :: .one (.v vy) :: rest) out := ⟨h.1, fun w vs F hG hv hK => by
  obtain ⟨v1, r1, A1, B1, rfl, g1, ⟨v2, r2, A2, B2, rfl, g2, g3, rfl⟩, rfl⟩ := hv
  have g1 : C false w (.v vx) v1 A1 := g1
  have g2 : C false w (.v vy) v2 A2 := g2
  simp only [C] at g1 g2
  obtain ⟨rfl, rfl, _⟩ := g1
  obtain ⟨rfl, rfl, _⟩ := g2
  obtain ⟨Gx, cx⟩ := hx w hK
  obtain ⟨Gy, cy⟩ := hy w hK
  exact h.2 w _ (Gx ++ (Gy ++ B2)) hG ⟨_, _, Gx, Gy ++ B2, rfl, cx, ⟨_, _, Gy, B2, rfl, cy, g3, rfl⟩, rfl⟩⟩
theorem FrTk.of1 {f : FuncId} {K : List (Nat × Obj)} {tx : T} {vx : Value} {rest : List V0} {out : V} (h : FrT P f (.one tx :: rest) out) (hx : KT K tx vx) : FrTk P f K (.one (.v vx) :: rest) out := ⟨h.1, fun w vs F hG hv hK => by
  obtain ⟨v1, r1, A1, B1, rfl, g1, g3, rfl⟩ := hv
  have g1 : C false w (.v vx) v1 A1 := g1
  simp only [C] at g1
  obtain ⟨rfl, rfl, _⟩ := g1
  obtain ⟨Gx, cx⟩ := hx w hK
  exact h.2 w _ (Gx ++ B1) hG ⟨_, _, Gx, B1, rfl, cx, g3, rfl⟩⟩
/-- Two owned things: a slice of slices, and one that may go into it. -/
theorem FnC.lift2 {f : FuncId} {ts : List T} {t0 : T} {L : List Nat} (hcl : Callee P f) (hL : L.Nodup) (hLn : ∀ i ∈ L, i < ts.length + 1)
    (h : ∀ (hd : Nat → Value) (K : List (Nat × Obj)), (∀ i t, (ts ++ [t0])[i]? = some t → KT K t (hd i)) → FnCk P f K [(true, .one (.sl 1 ((List.range ts.length).map fun i => [.v (hd i)]))), (false, .one (.v (hd ts.length)))] (.a (.one (.sl 1 (L.map fun i => [.v (hd i)]))))) :
    FnC P f [(true, .one (.sl 1 (ts.map fun t => [t]))), (true, .one t0)] (.a (.one (.sl 1 (L.map fun i => [(ts ++ [t0]).getD i (.v undef)])))) := ⟨hcl, fun w vs F hG hv hnd hth => by
  obtain ⟨v, vr, G1, G2, rfl, h1, ⟨v0, vr0, G3, G4, rfl, h2, ⟨h3, h4⟩, h5⟩, h6⟩ := hv
  subst h3; subst h4
  simp only [if_true] at h5 h6
  rw [List.append_nil] at h5
  subst h5
  subst h6
  have h1 : C true w (.sl 1 (ts.map fun t => [t])) v G1 := h1
  have h2 : C true w t0 v0 G2 := h2
  obtain ⟨nd1, nd2, nd3⟩ := List.nodup_append.1 hnd
  obtain ⟨hd1, Ga, F0, c1, c2, c3, c4, c5, c6, c7⟩ := C_split h1 nd1
  let hd : Nat → Value := fun i => if i < ts.length then hd1 i else v0
  let G : Nat → List Nat := fun i => if i < ts.length then Ga i else G2
  have hlt1 : ∀ b ∈ G1, b < w.heap.size := h1.lt
  have hlt2 : ∀ b ∈ G2, b < w.heap.size := h2.lt
  have hGin : ∀ i, i < ts.length + 1 → ∀ b ∈ G i, b ∈ G1 ++ G2 ∧ b ∉ F0 := fun i hi b hb => by
    simp only [G] at hb
    split at hb
    · rename_i hc
      exact ⟨List.mem_append_left _ (c5 i hc b hb).1, (c5 i hc b hb).2⟩
    · exact ⟨List.mem_append_right _ hb, fun hb0 => nd3 b (c4 b hb0) b hb rfl⟩
  have hlt : ∀ b ∈ G1 ++ G2, b < w.heap.size := fun b hb => (List.mem_append.1 hb).elim (hlt1 b) (hlt2 b)
  have hct : ∀ i t, (ts ++ [t0])[i]? = some t → C true w t (hd i) (G i) := fun i t hi => by
    simp only [hd, G]
    split
    · rename_i hc
      rw [List.getElem?_append_left hc] at hi
      exact c1 i t hi
    · rename_i hc
      rw [List.getElem?_append_right (by omega)] at hi
      have : i - ts.length = 0 := by
        have := (List.getElem?_eq_some_iff.1 hi).1
        simp at this; exact this
      rw [this] at hi
      cases hi
      exact h2
  have hnG : ∀ i, i < ts.length + 1 → (G i).Nodup := fun i hi => by
    simp only [G]; split
    · rename_i hc; exact c6 i hc
    · exact nd2
  have hap : ∀ i j, i < ts.length + 1 → j < ts.length + 1 → i ≠ j → ∀ b ∈ G i, b ∉ G j := fun i j hi hj hne b hb hb' => by
    simp only [G] at hb hb'
    split at hb <;> split at hb'
    · rename_i p1 p2; exact c7 i j p1 p2 hne b hb hb'
    · rename_i p1 p2; exact nd3 b (c5 i p1 b hb).1 b hb' rfl
    · rename_i p1 p2; exact nd3 b (c5 j p2 b hb').1 b hb rfl
    · omega
  have hK : ∀ i t, (ts ++ [t0])[i]? = some t → KT (blocksOf w ((List.range (ts.length + 1)).flatMap G)) t (hd i) := fun i t hi => KT.of (hct i t hi) fun b hb => by
    have hil : i < ts.length + 1 := by have := (List.getElem?_eq_some_iff.1 hi).1; simpa using this
    exact ⟨_, Array.getElem?_eq_getElem (hlt b (hGin i hil b hb).1), blocksOf_mem.2 ⟨List.mem_flatMap.2 ⟨i, by simpa using hil, hb⟩, Array.getElem?_eq_getElem _⟩⟩
  have hrange : ((List.range ts.length).map fun i => [T.v (hd i)]) = (List.range ts.length).map fun i => [T.v (hd1 i)] := List.map_congr_left fun i hi => by
    simp only [List.mem_range] at hi
    simp only [hd, if_pos hi]
  have hv0 : hd ts.length = v0 := by simp [hd]
  refine ((h hd _ hK).2 w [v, v0] F0 (hG.part fun b hb => List.mem_append_left _ (c4 b hb)) ⟨v, [v0], F0, [], rfl, (by show C true w _ v F0; rw [hrange]; exact c2), ⟨v0, [], [], [], rfl, (by show C false w _ v0 []; simp only [C]; exact ⟨hv0.symm, trivial, by rw [hv0]; exact h2.cell1⟩), ⟨rfl, rfl⟩, by simp⟩, by simp⟩ c3 (fun b hb => hth b (List.mem_append_left _ (c4 b hb))) blocksOf_keeps fun x hx hx' => ?_).mono fun e w' hR => ?_
  · obtain ⟨i, hi, hb⟩ := List.mem_flatMap.1 ((blocksOf_mem (b := x.1) (x := x.2)).1 hx).1
    exact (hGin i (by simpa using hi) _ hb).2 hx'
  · obtain ⟨v', F', e1, r1, r2, r3, r4⟩ := hR
    have r1 : C true w' (.sl 1 (L.map fun i => [.v (hd i)])) v' F' := r1
    have hsame : ∀ i ∈ L, ∀ b ∈ G i, w'.heap[b]? = w.heap[b]? := fun i hi b hb => r4.block b (hlt b (hGin i (hLn i hi) b hb).1) (hGin i (hLn i hi) b hb).2
    have hj := C_join (t := fun i => (ts ++ [t0]).getD i (.v undef)) (G := G) r1 fun i hi => by
      have hti : (ts ++ [t0])[i]? = some ((ts ++ [t0]).getD i (.v undef)) := by rw [List.getD_eq_getElem?_getD, List.getElem?_eq_getElem (by simpa using hLn i hi)]; rfl
      exact (hct i _ hti).congr (hsame i hi)
    have hflat : (if L = [] then [] else L.flatMap G) = L.flatMap G := by split <;> simp_all
    rw [hflat] at hj
    have hmem : ∀ b ∈ L.flatMap G, ∃ i ∈ L, b ∈ G i := fun b hb => List.mem_flatMap.1 hb
    refine ⟨v', F' ++ L.flatMap G, e1, hj, List.nodup_append.2 ⟨r2, nodup_flatMap hL (fun i hi => hnG i (hLn i hi)) (fun i hi j hj hne => hap i j (hLn i hi) (hLn j hj) hne), fun b hb c hc ebc => ?_⟩, fun b hb => ?_, ⟨r4.os, r4.tape, r4.output, r4.size, fun k hk hn => r4.block k hk fun hk' => hn (List.mem_append_left _ (c4 k hk'))⟩⟩
    · subst ebc
      obtain ⟨i, hi, hb'⟩ := hmem b hc
      have q := hGin i (hLn i hi) b hb'
      rcases (r3 b hb).1 with g | g
      · have := hlt b q.1; omega
      · exact q.2 g
    · rcases List.mem_append.1 hb with hb | hb
      · exact ⟨(r3 b hb).1.imp id fun g => List.mem_append_left _ (c4 b g), (r3 b hb).2⟩
      · obtain ⟨i, hi, hb'⟩ := hmem b hb
        have q := hGin i (hLn i hi) b hb'
        obtain ⟨cc, ee, o3⟩ := hth b q.1
        exact ⟨.inr q.1, cc, ee, (hsame i hi b hb').trans o3⟩⟩
theorem R_callkq {ops : Array Oper} {o : Oper} {σ : St} {q : Bool} {f : FuncId} {K : List (Nat × Obj)} {l : List Operand} {tys : Array TypeId} {ins : List V0} {out : V} (ho : o.op = .call { callee := .value (.func f), args := l.toArray, argTypes := tys }) (hg : Grd ops o σ q) (hd : o.dst.all (fun d => Nat.blt d σ.n) = true)
    (hk : look σ.res 999999 = some (.kept K)) (ha : Args σ q l ins) (h : q = true → FrTk P f K ins out) : Op1 P ops o σ (σ.put o.dst (q, inS out)) := by
  cases q with
  | true => exact R_callk (h rfl) hk ho hg hd ha
  | false =>
    rintro w0 a w ⟨I, hr⟩ K Q hK
    rw [hg.wanted hr]
    exact hK _ _ ⟨I, hr.put hd rfl⟩
end
end Go.Q
