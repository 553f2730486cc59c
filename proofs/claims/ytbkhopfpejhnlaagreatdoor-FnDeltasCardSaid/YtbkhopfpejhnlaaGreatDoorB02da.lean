import Derived.Test.YtbkhopfpejhnlaaGreatDoorAbs15da
import Derived.Test.YtbkhopfpejhnlaaGreatDoorStdda
set_option linter.unusedVariables false
set_option linter.unusedSimpArgs false
namespace Go.Q
open Go.RowKit
section
variable {P : Program} {ops : Array Oper} {o : Oper} {σ : St} {q : Bool}
theorem RelI.reslot {I : Ip} {w0 : Base} {w : World} {a : Act} (h : RelI I w0 σ a w) {i : Nat} {x : Bool × S} (hv : VS I w x (a.tmps.getD i undef)) : RelI I w0 ⟨σ.n, (i, x) :: σ.slots, σ.res⟩ a w :=
 ⟨h.ext, h.defers, h.size, fun j y hj => by
  rw [look_cons] at hj
  by_cases e : i = j
  · subst e; rw [if_pos rfl] at hj; cases hj; exact hv
  · rw [if_neg e] at hj; exact h.slots j y hj, h.res, h.old, h.lt, h.own, h.apart⟩
theorem RelI.nilrow {I : Ip} {w0 : Base} {w : World} {a : Act} (h : RelI I w0 σ a w) {id : Nat} (k : Nat) (hf : σ.has id = false) : RelI (I.set id [] (.slice none 0 0) 0) w0 (σ.add id (.row k [])) a w :=
 h.addF hf List.nodup_nil (fun b hb => by cases hb) (by
  show C true w (.sl k []) _ _
  simp only [Ip.set, if_true]
  unfold C
  exact ⟨none, 0, 0, rfl, rfl, Nat.le_refl _, Nat.zero_le _, .inl ⟨rfl, rfl, fun _ => rfl⟩⟩)
theorem VE_nil {I : Ip} {w : World} {id : Nat} {c : Value} (h : VE I w (.t (.v (.slice none 0 0))) c) : VE (I.set id [] (.slice none 0 0) 0) w (.rf id) c := by
 obtain ⟨G, h1, _⟩ := h
 simp only [C] at h1
 refine ⟨?_, none, 0, 0, h1.1⟩
 simp only [Ip.set, if_true]; exact h1.1
theorem VEs_nil {I : Ip} {w : World} {id : Nat} : ∀ {es : List E} {cs : List Value} {j : Nat}, es.any (E.has id) = false → VEs I w es cs → es[j]? = some (.t (.v (.slice none 0 0))) → VEs (I.set id [] (.slice none 0 0) 0) w (es.set j (.rf id)) cs
 | [], _, _, _, _, h => by simp at h
 | e :: es, _, 0, hh, ⟨c, cr, rfl, h1, h2⟩, h => by
  simp at h
  subst h
  simp only [List.any_cons, Bool.or_eq_false_iff] at hh
  exact ⟨c, cr, rfl, VE_nil h1, h2.set hh.2⟩
 | e :: es, _, j + 1, hh, ⟨c, cr, rfl, h1, h2⟩, h => by
  simp only [List.any_cons, Bool.or_eq_false_iff] at hh
  exact ⟨c, cr, rfl, h1.set hh.1, VEs_nil hh.2 h2 (by simpa using h)⟩
variable {w0 : Base} {Q : Exit → St → Prop} {n : Nat} {sl : List (Nat × (Bool × S))} {rs : List (Nat × R)} {l : List Oper}
theorem AWl.nilS {i : Nat} (id k : Nat) (hi : look sl i = some (true, .a (.one (.t (.v (.slice none 0 0)))))) (hf : St.has ⟨n, sl, rs⟩ id = false) (h : AWl P w0 ops Q l ⟨n, (i, (true, .a (.one (.rf id)))) :: sl, (id, .row k []) :: rs⟩) : AWl P w0 ops Q l ⟨n, sl, rs⟩ := fun a w ⟨I, hr⟩ =>
 h a w ⟨_, (hr.nilrow k hf).reslot (VE_nil (hr.slots _ _ hi))⟩
theorem AWl.nilA {i : Nat} (id k j : Nat) {es : List E} (hi : look sl i = some (true, .a (.agg es))) (hj : es[j]? = some (.t (.v (.slice none 0 0)))) (hf : St.has ⟨n, sl, rs⟩ id = false) (h : AWl P w0 ops Q l ⟨n, (i, (true, .a (.agg (es.set j (.rf id))))) :: sl, (id, .row k []) :: rs⟩) : AWl P w0 ops Q l ⟨n, sl, rs⟩ := fun a w ⟨I, hr⟩ => by
 have hh := St.has_slot hf hi
 obtain ⟨cs, h1, h2⟩ := hr.slots _ _ hi
 exact h a w ⟨_, (hr.nilrow k hf).reslot ⟨cs, h1, VEs_nil (by simpa [S.has, A.has] using hh) h2 hj⟩⟩
theorem AWl.le {σ' : St} (hl : Le σ σ') (h : AWl P w0 ops Q l σ') : AWl P w0 ops Q l σ := fun a w hr => h a w (hl w0 a w hr)
theorem BlockQ.nor {id : Nat} (h : Q .normal σ) : BlockQ id Q .normal σ := h
def Round1 {β1 : Type} (Inv : β1 → Prop) (J : β1 → St) (m : β1 → Nat) (a1 : β1) (Q : Exit → St → Prop) : Exit → St → Prop := Round (β := β1) (fun x => Inv x) (fun x => J x) (fun x => m x) a1 Q
theorem AW.loop1 {β1 : Type} (Inv : β1 → Prop) (J : β1 → St) (m : β1 → Nat) (y1 : β1) {c : Code} (h0 : Inv y1) (hs : Le σ (J y1)) (round : ∀ a1, Inv a1 → AW P w0 c (Round1 Inv J m a1 Q) (J a1)) : AW P w0 (.loop c) Q σ :=
 AW.loop (β := β1) (fun x => Inv x) (fun x => J x) (fun x => m x) y1 h0 hs fun x h => round x h
theorem Round1.next {β1 : Type} {Inv : β1 → Prop} {J : β1 → St} {m : β1 → Nat} {a1 : β1} (y1 : β1) (h1 : Inv y1) (h2 : m y1 < m a1) (h3 : Le σ (J y1)) : Round1 Inv J m a1 Q .normal σ := ⟨y1, h1, h2, h3⟩
def Round2 {β1 β2 : Type} (Inv : β1 → β2 → Prop) (J : β1 → β2 → St) (m : β1 → β2 → Nat) (a1 : β1) (a2 : β2) (Q : Exit → St → Prop) : Exit → St → Prop := Round (β := β1 × β2) (fun x => Inv x.1 x.2) (fun x => J x.1 x.2) (fun x => m x.1 x.2) (a1, a2) Q
theorem AW.loop2 {β1 β2 : Type} (Inv : β1 → β2 → Prop) (J : β1 → β2 → St) (m : β1 → β2 → Nat) (y1 : β1) (y2 : β2) {c : Code} (h0 : Inv y1 y2) (hs : Le σ (J y1 y2)) (round : ∀ a1 a2, Inv a1 a2 → AW P w0 c (Round2 Inv J m a1 a2 Q) (J a1 a2)) : AW P w0 (.loop c) Q σ :=
 AW.loop (β := β1 × β2) (fun x => Inv x.1 x.2) (fun x => J x.1 x.2) (fun x => m x.1 x.2) (y1, y2) h0 hs fun x h => round (x.1) (x.2) h
theorem Round2.next {β1 β2 : Type} {Inv : β1 → β2 → Prop} {J : β1 → β2 → St} {m : β1 → β2 → Nat} {a1 : β1} {a2 : β2} (y1 : β1) (y2 : β2) (h1 : Inv y1 y2) (h2 : m y1 y2 < m a1 a2) (h3 : Le σ (J y1 y2)) : Round2 Inv J m a1 a2 Q .normal σ := ⟨(y1, y2), h1, h2, h3⟩
def Round3 {β1 β2 β3 : Type} (Inv : β1 → β2 → β3 → Prop) (J : β1 → β2 → β3 → St) (m : β1 → β2 → β3 → Nat) (a1 : β1) (a2 : β2) (a3 : β3) (Q : Exit → St → Prop) : Exit → St → Prop := Round (β := β1 × β2 × β3) (fun x => Inv x.1 x.2.1 x.2.2) (fun x => J x.1 x.2.1 x.2.2) (fun x => m x.1 x.2.1 x.2.2) (a1, a2, a3) Q
theorem AW.loop3 {β1 β2 β3 : Type} (Inv : β1 → β2 → β3 → Prop) (J : β1 → β2 → β3 → St) (m : β1 → β2 → β3 → Nat) (y1 : β1) (y2 : β2) (y3 : β3) {c : Code} (h0 : Inv y1 y2 y3) (hs : Le σ (J y1 y2 y3)) (round : ∀ a1 a2 a3, Inv a1 a2 a3 → AW P w0 c (Round3 Inv J m a1 a2 a3 Q) (J a1 a2 a3)) : AW P w0 (.loop c) Q σ :=
 AW.loop (β := β1 × β2 × β3) (fun x => Inv x.1 x.2.1 x.2.2) (fun x => J x.1 x.2.1 x.2.2) (fun x => m x.1 x.2.1 x.2.2) (y1, y2, y3) h0 hs fun x h => round (x.1) (x.2.1) (x.2.2) h
theorem Round3.next {β1 β2 β3 : Type} {Inv : β1 → β2 → β3 → Prop} {J : β1 → β2 → β3 → St} {m : β1 → β2 → β3 → Nat} {a1 : β1} {a2 : β2} {a3 : β3} (y1 : β1) (y2 : β2) (y3 : β3) (h1 : Inv y1 y2 y3) (h2 : m y1 y2 y3 < m a1 a2 a3) (h3 : Le σ (J y1 y2 y3)) : Round3 Inv J m a1 a2 a3 Q .normal σ := ⟨(y1, y2, y3), h1, h2, h3⟩
def Round4 {β1 β2 β3 β4 : Type} (Inv : β1 → β2 → β3 → β4 → Prop) (J : β1 → β2 → β3 → β4 → St) (m : β1 → β2 → β3 → β4 → Nat) (a1 : β1) (a2 : β2) (a3 : β3) (a4 : β4) (Q : Exit → St → Prop) : Exit → St → Prop := Round (β := β1 × β2 × β3 × β4) (fun x => Inv x.1 x.2.1 x.2.2.1 x.2.2.2) (fun x => J x.1 x.2.1 x.2.2.1 x.2.2.2) (fun x => m x.1 x.2.1 x.2.2.1 x.2.2.2) (a1, a2, a3, a4) Q
theorem Round4.next {β1 β2 β3 β4 : Type} {Inv : β1 → β2 → β3 → β4 → Prop} {J : β1 → β2 → β3 → β4 → St} {m : β1 → β2 → β3 → β4 → Nat} {a1 : β1} {a2 : β2} {a3 : β3} {a4 : β4} (y1 : β1) (y2 : β2) (y3 : β3) (y4 : β4) (h1 : Inv y1 y2 y3 y4) (h2 : m y1 y2 y3 y4 < m a1 a2 a3 a4) (h3 : Le σ (J y1 y2 y3 y4)) : Round4 Inv J m a1 a2 a3 a4 Q .normal σ := ⟨(y1, y2, y3, y4), h1, h2, h3⟩
def Round5 {β1 β2 β3 β4 β5 : Type} (Inv : β1 → β2 → β3 → β4 → β5 → Prop) (J : β1 → β2 → β3 → β4 → β5 → St) (m : β1 → β2 → β3 → β4 → β5 → Nat) (a1 : β1) (a2 : β2) (a3 : β3) (a4 : β4) (a5 : β5) (Q : Exit → St → Prop) : Exit → St → Prop := Round (β := β1 × β2 × β3 × β4 × β5) (fun x => Inv x.1 x.2.1 x.2.2.1 x.2.2.2.1 x.2.2.2.2) (fun x => J x.1 x.2.1 x.2.2.1 x.2.2.2.1 x.2.2.2.2) (fun x => m x.1 x.2.1 x.2.2.1 x.2.2.2.1 x.2.2.2.2) (a1, a2, a3, a4, a5) Q
theorem Round5.next {β1 β2 β3 β4 β5 : Type} {Inv : β1 → β2 → β3 → β4 → β5 → Prop} {J : β1 → β2 → β3 → β4 → β5 → St} {m : β1 → β2 → β3 → β4 → β5 → Nat} {a1 : β1} {a2 : β2} {a3 : β3} {a4 : β4} {a5 : β5} (y1 : β1) (y2 : β2) (y3 : β3) (y4 : β4) (y5 : β5) (h1 : Inv y1 y2 y3 y4 y5) (h2 : m y1 y2 y3 y4 y5 < m a1 a2 a3 a4 a5) (h3 : Le σ (J y1 y2 y3 y4 y5)) : Round5 Inv J m a1 a2 a3 a4 a5 Q .normal σ := ⟨(y1, y2, y3, y4, y5), h1, h2, h3⟩
end
end Go.Q
namespace Go.Q
open Go.D
end Go.Q
namespace Go.Proofs.YtbkhopfpejhnlaaGreatDoor
open Go.RowKit Go.Q Go.D
set_option maxRecDepth 100000 in
theorem implwithin (n a b : Int) : FnT Tryz.prog 61 [.one (.v (.int .i64 n)), .one (.v (.int .i64 a)), .one (.v (.int .i64 b))] (.a (.one (.v (.bool (inB n a b))))) := by
 refine FnT.walk Tryz.func61 U (by kernel_rfl) Tryz.ntmps61 U fun hlen w0 => ?_
 try simp [cPair, cToken, cExpr, cEdge, cGraph, cStep, cWalk, cChange, cBatch, cHistory, cPositions, cAutomaton, cProductStep, cPathAtom, cConjunction, cView, cDelta, cRegistered, cRegistry] at hlen
 refine AW.sr ?_
 refine AWl.ac U U U U U ?_
 refine AWl.nil (AW.sr ?_)
 refine AWl.mv U U U U U ?_
 refine AWl.mv U U U U U ?_
 refine AWl.put (R_ge U (.no U) U (.tm U) (.tm U)) U ?_
 refine AWl.mv U U U U U ?_
 refine AWl.put (R_move U (by first | exact .yes1 U U U U | exact .yes U U U U) U (.tmp U (by first | exact fun _ => rfl | exact id | simp))) U ?_
 refine AWl.put (R_move U (by first | exact .yes1 U U U U | exact .yes U U U U) U (.tmp U (by first | exact fun _ => rfl | exact id | simp))) U ?_
 refine AWl.put (R_le U (by first | exact .yes1 U U U U | exact .yes U U U U) U (.tmp U (by first | exact fun _ => rfl | exact id | simp)) (.tmp U (by first | exact fun _ => rfl | exact id | simp))) U ?_
 refine AWl.put (R_and U (.no U) U (.tm U) (.tmp U (by first | exact fun _ => rfl | exact id | simp))) U ?_
 refine AWl.av U U U U U ?_
 refine AWl.nil (AW.ret ?_)
 refine Res.v U U ?_
 rfl
set_option maxRecDepth 100000 in
theorem specl1In (n a b : Int) : FnT Tryz.prog 41 [.one (.v (.int .i64 n)), .one (.v (.int .i64 a)), .one (.v (.int .i64 b))] (.a (.one (.v (.bool (inB n a b))))) := by
 refine FnT.walk Tryz.func41 U (by kernel_rfl) Tryz.ntmps41 U fun hlen w0 => ?_
 try simp [cPair, cToken, cExpr, cEdge, cGraph, cStep, cWalk, cChange, cBatch, cHistory, cPositions, cAutomaton, cProductStep, cPathAtom, cConjunction, cView, cDelta, cRegistered, cRegistry] at hlen
 refine AW.sr ?_
 refine AWl.ac U U U U U ?_
 refine AWl.nil (AW.sr ?_)
 refine AWl.mv U U U U U ?_
 refine AWl.mv U U U U U ?_
 refine AWl.put (R_ge U (.no U) U (.tm U) (.tm U)) U ?_
 refine AWl.mv U U U U U ?_
 refine AWl.put (R_move U (by first | exact .yes1 U U U U | exact .yes U U U U) U (.tmp U (by first | exact fun _ => rfl | exact id | simp))) U ?_
 refine AWl.put (R_move U (by first | exact .yes1 U U U U | exact .yes U U U U) U (.tmp U (by first | exact fun _ => rfl | exact id | simp))) U ?_
 refine AWl.put (R_le U (by first | exact .yes1 U U U U | exact .yes U U U U) U (.tmp U (by first | exact fun _ => rfl | exact id | simp)) (.tmp U (by first | exact fun _ => rfl | exact id | simp))) U ?_
 refine AWl.put (R_and U (.no U) U (.tm U) (.tmp U (by first | exact fun _ => rfl | exact id | simp))) U ?_
 refine AWl.av U U U U U ?_
 refine AWl.nil (AW.ret ?_)
 refine Res.v U U ?_
 rfl
end Go.Proofs.YtbkhopfpejhnlaaGreatDoor
