import Derived.Test.YtamnfkfjfelbbaaAbs15xw
set_option linter.unusedVariables false
set_option linter.unusedSimpArgs false
namespace Go.Q
open Go.RowKit
section
variable {P : Program} {ops : Array Oper} {o : Oper} {σ : St} {q : Bool}
theorem RelI.reslot {I : Ip} {w0 : Base} {w : World} {a : Act} (h : RelI I w0 σ a w) {i : Nat} {x : Bool × S} (hv : VS I w x (a.tmps.getD i undef)) : RelI I w0 ⟨σ.n, (i, x) :: σ.slots, σ.res⟩ a w :=
 ⟨h.ext, h.defers, h.size, fun j y hj => by
  rw [look_cons] at hj
  by_cases e : i = j
  · subst e; rw [if_pos rfl] at hj; cases hj; exact hv
  · rw [if_neg e] at hj; exact h.slots j y hj, h.res, h.old, h.lt, h.own, h.apart⟩
theorem RelI.nilrow {I : Ip} {w0 : Base} {w : World} {a : Act} (h : RelI I w0 σ a w) {id : Nat} (k : Nat) (hf : σ.has id = false) : RelI (I.set id [] (.slice none 0 0) 0) w0 (σ.add id (.row k [])) a w :=
 h.addF hf List.nodup_nil (fun b hb => by cases hb) (by
  show C true w (.sl k []) _ _
  simp only [Ip.set, if_true]
  unfold C
  exact ⟨none, 0, 0, rfl, rfl, Nat.le_refl _, Nat.zero_le _, .inl ⟨rfl, rfl, fun _ => rfl⟩⟩)
theorem VE_nil {I : Ip} {w : World} {id : Nat} {c : Value} (h : VE I w (.t (.v (.slice none 0 0))) c) : VE (I.set id [] (.slice none 0 0) 0) w (.rf id) c := by
 obtain ⟨G, h1, _⟩ := h
 simp only [C] at h1
 refine ⟨?_, none, 0, 0, h1.1⟩
 simp only [Ip.set, if_true]; exact h1.1
theorem VEs_nil {I : Ip} {w : World} {id : Nat} : ∀ {es : List E} {cs : List Value} {j : Nat}, es.any (E.has id) = false → VEs I w es cs → es[j]? = some (.t (.v (.slice none 0 0))) → VEs (I.set id [] (.slice none 0 0) 0) w (es.set j (.rf id)) cs
 | [], _, _, _, _, h => by simp at h
 | e :: es, _, 0, hh, ⟨c, cr, rfl, h1, h2⟩, h => by
  simp at h
  subst h
  simp only [List.any_cons, Bool.or_eq_false_iff] at hh
  exact ⟨c, cr, rfl, VE_nil h1, h2.set hh.2⟩
 | e :: es, _, j + 1, hh, ⟨c, cr, rfl, h1, h2⟩, h => by
  simp only [List.any_cons, Bool.or_eq_false_iff] at hh
  exact ⟨c, cr, rfl, h1.set hh.1, VEs_nil hh.2 h2 (by simpa using h)⟩
variable {w0 : Base} {Q : Exit → St → Prop} {n : Nat} {sl : List (Nat × (Bool × S))} {rs : List (Nat × R)} {l : List Oper}
theorem AWl.nilS {i : Nat} (id k : Nat) (hi : look sl i = some (true, .a (.one (.t (.v (.slice none 0 0)))))) (hf : St.has ⟨n, sl, rs⟩ id = false) (h : AWl P w0 ops Q l ⟨n, (i, (true, .a (.one (.rf id)))) :: sl, (id, .row k []) :: rs⟩) : AWl P w0 ops Q l ⟨n, sl, rs⟩ := fun a w ⟨I, hr⟩ =>
 h a w ⟨_, (hr.nilrow k hf).reslot (VE_nil (hr.slots _ _ hi))⟩
theorem AWl.nilA {i : Nat} (id k j : Nat) {es : List E} (hi : look sl i = some (true, .a (.agg es))) (hj : es[j]? = some (.t (.v (.slice none 0 0)))) (hf : St.has ⟨n, sl, rs⟩ id = false) (h : AWl P w0 ops Q l ⟨n, (i, (true, .a (.agg (es.set j (.rf id))))) :: sl, (id, .row k []) :: rs⟩) : AWl P w0 ops Q l ⟨n, sl, rs⟩ := fun a w ⟨I, hr⟩ => by
 have hh := St.has_slot hf hi
 obtain ⟨cs, h1, h2⟩ := hr.slots _ _ hi
 exact h a w ⟨_, (hr.nilrow k hf).reslot ⟨cs, h1, VEs_nil (by simpa [S.has, A.has] using hh) h2 hj⟩⟩
theorem AWl.nilB {b : Nat} (id k j : Nat) {cs : List E} (hb : look rs b = some (.box cs)) (hj : cs[j]? = some (.t (.v (.slice none 0 0)))) (hf : St.has ⟨n, sl, rs⟩ id = false) (h : AWl P w0 ops Q l ⟨n, sl, (id, .row k []) :: setR rs b (.box (cs.set j (.rf id)))⟩) : AWl P w0 ops Q l ⟨n, sl, rs⟩ := fun a w ⟨I, hr⟩ => by
 have hh := St.has_res hf hb
 have hne : id ≠ b := fun e => hh.1 e.symm
 have hr' := (hr.nilrow k hf)
 have hb' : look (St.add ⟨n, sl, rs⟩ id (.row k [])).res b = some (.box cs) := by
  rw [St.add, look_cons, if_neg hne]; exact hb
 refine h a w ⟨I.set id [] (.slice none 0 0) 0, ?_⟩
 have hr0 : RelI (I.set id [] (.slice none 0 0) 0) w0 ⟨n, sl, setR ((id, .row k []) :: rs) b (.box (cs.set j (.rf id)))⟩ a w := by
  have key : ∀ i r, look (setR ((id, R.row k []) :: rs) b (.box (cs.set j (.rf id)))) i = some r → (i = b ∧ r = .box (cs.set j (.rf id))) ∨ look ((id, R.row k []) :: rs) i = some r := fun i r hi => by
   rcases look_setR _ _ _ _ _ hi with ⟨h1, h2, _⟩ | ⟨_, h2⟩
   · exact .inl ⟨h1, h2⟩
   · exact .inr h2
  refine ⟨hr'.ext, hr'.defers, hr'.size, hr'.slots, fun i r hi => ?_, hr'.old, hr'.lt, fun i r hi => ?_, hr'.apart⟩
  · rcases key i r hi with ⟨rfl, rfl⟩ | hi
    · obtain ⟨h1, vs, e, h2, h3⟩ := hr.res _ _ hb
      refine ⟨by simp only [Ip.set, if_neg hh.1]; exact h1, vs, e, by simp only [Ip.set, if_neg hh.1]; exact h2, VEs_nil (by simpa [R.has] using hh.2) h3 hj⟩
    · exact hr'.res i r hi
  · rcases key i r hi with ⟨rfl, rfl⟩ | hi
    · exact hr'.own _ _ hb'
    · exact hr'.own i r hi
 have e : setR ((id, R.row k []) :: rs) b (.box (cs.set j (.rf id))) = (id, .row k []) :: setR rs b (.box (cs.set j (.rf id))) := by
  rw [setR, beq_false hne]; rfl
 rw [← e]; exact hr0
theorem AWl.le {σ' : St} (hl : Le σ σ') (h : AWl P w0 ops Q l σ') : AWl P w0 ops Q l σ := fun a w hr => h a w (hl w0 a w hr)
theorem BlockQ.nor {id : Nat} (h : Q .normal σ) : BlockQ id Q .normal σ := h
def Round1 {β1 : Type} (Inv : β1 → Prop) (J : β1 → St) (m : β1 → Nat) (a1 : β1) (Q : Exit → St → Prop) : Exit → St → Prop := Round (β := β1) (fun x => Inv x) (fun x => J x) (fun x => m x) a1 Q
theorem AW.loop1 {β1 : Type} (Inv : β1 → Prop) (J : β1 → St) (m : β1 → Nat) (y1 : β1) {c : Code} (h0 : Inv y1) (hs : Le σ (J y1)) (round : ∀ a1, Inv a1 → AW P w0 c (Round1 Inv J m a1 Q) (J a1)) : AW P w0 (.loop c) Q σ :=
 AW.loop (β := β1) (fun x => Inv x) (fun x => J x) (fun x => m x) y1 h0 hs fun x h => round x h
theorem Round1.next {β1 : Type} {Inv : β1 → Prop} {J : β1 → St} {m : β1 → Nat} {a1 : β1} (y1 : β1) (h1 : Inv y1) (h2 : m y1 < m a1) (h3 : Le σ (J y1)) : Round1 Inv J m a1 Q .normal σ := ⟨y1, h1, h2, h3⟩
def Round2 {β1 β2 : Type} (Inv : β1 → β2 → Prop) (J : β1 → β2 → St) (m : β1 → β2 → Nat) (a1 : β1) (a2 : β2) (Q : Exit → St → Prop) : Exit → St → Prop := Round (β := β1 × β2) (fun x => Inv x.1 x.2) (fun x => J x.1 x.2) (fun x => m x.1 x.2) (a1, a2) Q
theorem AW.loop2 {β1 β2 : Type} (Inv : β1 → β2 → Prop) (J : β1 → β2 → St) (m : β1 → β2 → Nat) (y1 : β1) (y2 : β2) {c : Code} (h0 : Inv y1 y2) (hs : Le σ (J y1 y2)) (round : ∀ a1 a2, Inv a1 a2 → AW P w0 c (Round2 Inv J m a1 a2 Q) (J a1 a2)) : AW P w0 (.loop c) Q σ :=
 AW.loop (β := β1 × β2) (fun x => Inv x.1 x.2) (fun x => J x.1 x.2) (fun x => m x.1 x.2) (y1, y2) h0 hs fun x h => round (x.1) (x.2) h
theorem Round2.next {β1 β2 : Type} {Inv : β1 → β2 → Prop} {J : β1 → β2 → St} {m : β1 → β2 → Nat} {a1 : β1} {a2 : β2} (y1 : β1) (y2 : β2) (h1 : Inv y1 y2) (h2 : m y1 y2 < m a1 a2) (h3 : Le σ (J y1 y2)) : Round2 Inv J m a1 a2 Q .normal σ := ⟨(y1, y2), h1, h2, h3⟩
def Round3 {β1 β2 β3 : Type} (Inv : β1 → β2 → β3 → Prop) (J : β1 → β2 → β3 → St) (m : β1 → β2 → β3 → Nat) (a1 : β1) (a2 : β2) (a3 : β3) (Q : Exit → St → Prop) : Exit → St → Prop := Round (β := β1 × β2 × β3) (fun x => Inv x.1 x.2.1 x.2.2) (fun x => J x.1 x.2.1 x.2.2) (fun x => m x.1 x.2.1 x.2.2) (a1, a2, a3) Q
theorem AW.loop3 {β1 β2 β3 : Type} (Inv : β1 → β2 → β3 → Prop) (J : β1 → β2 → β3 → St) (m : β1 → β2 → β3 → Nat) (y1 : β1) (y2 : β2) (y3 : β3) {c : Code} (h0 : Inv y1 y2 y3) (hs : Le σ (J y1 y2 y3)) (round : ∀ a1 a2 a3, Inv a1 a2 a3 → AW P w0 c (Round3 Inv J m a1 a2 a3 Q) (J a1 a2 a3)) : AW P w0 (.loop c) Q σ :=
 AW.loop (β := β1 × β2 × β3) (fun x => Inv x.1 x.2.1 x.2.2) (fun x => J x.1 x.2.1 x.2.2) (fun x => m x.1 x.2.1 x.2.2) (y1, y2, y3) h0 hs fun x h => round (x.1) (x.2.1) (x.2.2) h
theorem Round3.next {β1 β2 β3 : Type} {Inv : β1 → β2 → β3 → Prop} {J : β1 → β2 → β3 → St} {m : β1 → β2 → β3 → Nat} {a1 : β1} {a2 : β2} {a3 : β3} (y1 : β1) (y2 : β2) (y3 : β3) (h1 : Inv y1 y2 y3) (h2 : m y1 y2 y3 < m a1 a2 a3) (h3 : Le σ (J y1 y2 y3)) : Round3 Inv J m a1 a2 a3 Q .normal σ := ⟨(y1, y2, y3), h1, h2, h3⟩
def Round4 {β1 β2 β3 β4 : Type} (Inv : β1 → β2 → β3 → β4 → Prop) (J : β1 → β2 → β3 → β4 → St) (m : β1 → β2 → β3 → β4 → Nat) (a1 : β1) (a2 : β2) (a3 : β3) (a4 : β4) (Q : Exit → St → Prop) : Exit → St → Prop := Round (β := β1 × β2 × β3 × β4) (fun x => Inv x.1 x.2.1 x.2.2.1 x.2.2.2) (fun x => J x.1 x.2.1 x.2.2.1 x.2.2.2) (fun x => m x.1 x.2.1 x.2.2.1 x.2.2.2) (a1, a2, a3, a4) Q
theorem AW.loop4 {β1 β2 β3 β4 : Type} (Inv : β1 → β2 → β3 → β4 → Prop) (J : β1 → β2 → β3 → β4 → St) (m : β1 → β2 → β3 → β4 → Nat) (y1 : β1) (y2 : β2) (y3 : β3) (y4 : β4) {c : Code} (h0 : Inv y1 y2 y3 y4) (hs : Le σ (J y1 y2 y3 y4)) (round : ∀ a1 a2 a3 a4, Inv a1 a2 a3 a4 → AW P w0 c (Round4 Inv J m a1 a2 a3 a4 Q) (J a1 a2 a3 a4)) : AW P w0 (.loop c) Q σ :=
 AW.loop (β := β1 × β2 × β3 × β4) (fun x => Inv x.1 x.2.1 x.2.2.1 x.2.2.2) (fun x => J x.1 x.2.1 x.2.2.1 x.2.2.2) (fun x => m x.1 x.2.1 x.2.2.1 x.2.2.2) (y1, y2, y3, y4) h0 hs fun x h => round (x.1) (x.2.1) (x.2.2.1) (x.2.2.2) h
theorem Round4.next {β1 β2 β3 β4 : Type} {Inv : β1 → β2 → β3 → β4 → Prop} {J : β1 → β2 → β3 → β4 → St} {m : β1 → β2 → β3 → β4 → Nat} {a1 : β1} {a2 : β2} {a3 : β3} {a4 : β4} (y1 : β1) (y2 : β2) (y3 : β3) (y4 : β4) (h1 : Inv y1 y2 y3 y4) (h2 : m y1 y2 y3 y4 < m a1 a2 a3 a4) (h3 : Le σ (J y1 y2 y3 y4)) : Round4 Inv J m a1 a2 a3 a4 Q .normal σ := ⟨(y1, y2, y3, y4), h1, h2, h3⟩
def Round5 {β1 β2 β3 β4 β5 : Type} (Inv : β1 → β2 → β3 → β4 → β5 → Prop) (J : β1 → β2 → β3 → β4 → β5 → St) (m : β1 → β2 → β3 → β4 → β5 → Nat) (a1 : β1) (a2 : β2) (a3 : β3) (a4 : β4) (a5 : β5) (Q : Exit → St → Prop) : Exit → St → Prop := Round (β := β1 × β2 × β3 × β4 × β5) (fun x => Inv x.1 x.2.1 x.2.2.1 x.2.2.2.1 x.2.2.2.2) (fun x => J x.1 x.2.1 x.2.2.1 x.2.2.2.1 x.2.2.2.2) (fun x => m x.1 x.2.1 x.2.2.1 x.2.2.2.1 x.2.2.2.2) (a1, a2, a3, a4, a5) Q
theorem AW.loop5 {β1 β2 β3 β4 β5 : Type} (Inv : β1 → β2 → β3 → β4 → β5 → Prop) (J : β1 → β2 → β3 → β4 → β5 → St) (m : β1 → β2 → β3 → β4 → β5 → Nat) (y1 : β1) (y2 : β2) (y3 : β3) (y4 : β4) (y5 : β5) {c : Code} (h0 : Inv y1 y2 y3 y4 y5) (hs : Le σ (J y1 y2 y3 y4 y5)) (round : ∀ a1 a2 a3 a4 a5, Inv a1 a2 a3 a4 a5 → AW P w0 c (Round5 Inv J m a1 a2 a3 a4 a5 Q) (J a1 a2 a3 a4 a5)) : AW P w0 (.loop c) Q σ :=
 AW.loop (β := β1 × β2 × β3 × β4 × β5) (fun x => Inv x.1 x.2.1 x.2.2.1 x.2.2.2.1 x.2.2.2.2) (fun x => J x.1 x.2.1 x.2.2.1 x.2.2.2.1 x.2.2.2.2) (fun x => m x.1 x.2.1 x.2.2.1 x.2.2.2.1 x.2.2.2.2) (y1, y2, y3, y4, y5) h0 hs fun x h => round (x.1) (x.2.1) (x.2.2.1) (x.2.2.2.1) (x.2.2.2.2) h
theorem Round5.next {β1 β2 β3 β4 β5 : Type} {Inv : β1 → β2 → β3 → β4 → β5 → Prop} {J : β1 → β2 → β3 → β4 → β5 → St} {m : β1 → β2 → β3 → β4 → β5 → Nat} {a1 : β1} {a2 : β2} {a3 : β3} {a4 : β4} {a5 : β5} (y1 : β1) (y2 : β2) (y3 : β3) (y4 : β4) (y5 : β5) (h1 : Inv y1 y2 y3 y4 y5) (h2 : m y1 y2 y3 y4 y5 < m a1 a2 a3 a4 a5) (h3 : Le σ (J y1 y2 y3 y4 y5)) : Round5 Inv J m a1 a2 a3 a4 a5 Q .normal σ := ⟨(y1, y2, y3, y4, y5), h1, h2, h3⟩
end
end Go.Q
namespace Go.Q
open Go.RowKit
section
variable {P : Program} {ops : Array Oper} {o : Oper} {σ : St} {q : Bool}
def V0c (w : World) (FF : List Nat) : List (Bool × V0) → List Value → List Nat → Prop
 | [], vs, F => vs = [] ∧ F = []
 | (o, x) :: r, vs, F => ∃ v vr G1 G2, vs = v :: vr ∧ V0r o w x v G1 ∧ V0c w FF r vr G2 ∧ (if o = true then F = G1 ++ G2 else F = G2 ∧ ∀ b ∈ G1, b ∉ FF)
def CPost (w : World) (out : V) (F : List Nat) (e : Ending) (w' : World) : Prop :=
 ∃ v F', e = .returned v ∧ Vr true w' out v F' ∧ F'.Nodup ∧ (∀ b ∈ F', (w.heap.size ≤ b ∨ b ∈ F) ∧ Thaw w' b) ∧ Chg w w' F
def FnC (P : Program) (f : FuncId) (ins : List (Bool × V0)) (out : V) : Prop := Callee P f ∧ ∀ w vs F, Good w F → V0c w F ins vs F → F.Nodup → (∀ b ∈ F, Thaw w b) → Calls P f (List.toArray vs) w (CPost w out F)
theorem V0c.len {w : World} {FF : List Nat} : ∀ {ins : List (Bool × V0)} {vs : List Value} {F : List Nat}, V0c w FF ins vs F → vs.length = ins.length
 | [], _, _, ⟨h, _⟩ => by subst h; rfl
 | (_, _) :: _, _, _, ⟨v, vr, _, _, rfl, _, h, _⟩ => by simp [h.len]
theorem V0c.sub {w : World} {FF : List Nat} : ∀ {ins : List (Bool × V0)} {vs : List Value} {F : List Nat}, V0c w FF ins vs F → ∀ b ∈ F, b < w.heap.size
 | [], _, _, ⟨_, h⟩, b, hb => by subst h; cases hb
 | (o, x) :: r, _, F, ⟨v, vr, G1, G2, rfl, h1, h2, h3⟩, b, hb => by
  cases o with
  | true =>
   simp only [if_true] at h3
   subst h3
   rcases List.mem_append.1 hb with hb | hb
   · exact h1.lt b hb
   · exact h2.sub b hb
  | false =>
   simp only [Bool.false_eq_true, if_false] at h3
   rw [h3.1] at hb
   exact h2.sub b hb
def initC : Nat → List (Bool × V0) → St → Option St
 | _, [], σ => some σ
 | i, (false, x) :: r, σ => initC (i + 1) r ⟨σ.n, (i, (true, .a (inA x))) :: σ.slots, σ.res⟩
 | i, (true, x) :: r, σ => match outV0 (1000 + 50 * i) x with
  | some (y, rs) => bif (rs.all fun x => !σ.has x.1) then initC (i + 1) r ⟨σ.n, (i, (true, .a y)) :: σ.slots, addsR rs σ.res⟩ else none
  | none => none
theorem initC_ok {w0 : Base} {w : World} {a : Act} {FF : List Nat} (hZ0 : ∀ b, b < w.heap.size → b ∉ FF → True) : ∀ {ins : List (Bool × V0)} {i : Nat} {σ σ' : St} {I : Ip} {vs : List Value} {F : List Nat}, initC i ins σ = some σ' → RelI I w0 σ a w → (∀ b, b < w.heap.size → b ∉ FF → I.Z b) → V0c w FF ins vs F → F.Nodup → (∀ b ∈ F, Free I w0 w b) → (∀ j v, vs[j]? = some v → a.tmps.getD (i + j) undef = v) →
 ∃ I', RelI I' w0 σ' a w
 | [], i, σ, σ', I, vs, F, h, hr, _, _, _, _, _ => by simp only [initC, Option.some.injEq] at h; subst h; exact ⟨I, hr⟩
 | (false, x) :: r, i, σ, σ', I, vs, F, h, hr, hZ, ⟨v, vr, G1, G2, e, h1, h2, h3⟩, hn, hf, hv => by
  subst e
  rw [initC] at h
  simp only [Bool.false_eq_true, if_false] at h3
  obtain ⟨rfl, h3⟩ := h3
  refine initC_ok hZ0 h (hr.reslot ?_) hZ h2 hn hf fun j u hj => ?_
  · rw [show a.tmps.getD i undef = v from hv 0 v rfl]
    exact VA_also h1 fun b hb => hZ b (h1.lt b hb) (h3 b hb)
  · rw [show i + 1 + j = i + (j + 1) by omega]; exact hv (j + 1) u (by simpa using hj)
 | (true, x) :: r, i, σ, σ', I, vs, F, h, hr, hZ, ⟨v, vr, G1, G2, e, h1, h2, h3⟩, hn, hf, hv => by
  subst e
  rw [initC] at h
  simp only [if_true] at h3
  subst h3
  split at h
  · rename_i y rs hy
    cases hb : (rs.all fun x => !σ.has x.1) with
    | false => rw [hb] at h; cases h
    | true =>
     rw [hb] at h
     obtain ⟨n1, n2, n3⟩ := List.nodup_append.1 hn
     obtain ⟨I1, r1, r2, r3, r4⟩ := outV0_ok hy hb hr h1 n1 fun b hb => hf b (by simp [hb])
     have e1 : σ.adds rs = ⟨σ.n, σ.slots, addsR rs σ.res⟩ := adds_eq rs σ.n σ.slots σ.res
     rw [e1] at r1
     refine initC_ok hZ0 (σ := ⟨σ.n, (i, (true, .a y)) :: σ.slots, addsR rs σ.res⟩) h (r1.reslot ?_) (by rw [r3.1]; exact hZ) h2 n2 (fun b hb => r4 b (hf b (by simp [hb])) fun hm => n3 b hm b hb rfl) fun j u hj => ?_
     · rw [show a.tmps.getD i undef = v from hv 0 v rfl]; exact r2
     · rw [show i + 1 + j = i + (j + 1) by omega]; exact hv (j + 1) u (by simpa using hj)
  · cases h
theorem FnC.walk {n : Nat} {f : FuncId} {fn : Func} {c : Code} {ins : List (Bool × V0)} {out : V} {σ' : St} (hf : P.funcs[f]? = some fn) (hb : fn.body = some c) (hname : (fn.name == "runtime.NumGoroutine") = false) (hnt : fn.ntmps = n) (hn : Nat.ble ins.length n = true) (hi : initC 0 ins ⟨n, [], []⟩ = some σ')
 (h : ∀ w0, AW P w0 c (RetQ P fn true out) σ') : FnC P f ins out := by
 subst hnt
 refine ⟨⟨fn, hf, hname, by rw [hb]; rfl⟩, fun w vs F hG hv hnd hth => ?_⟩
 have hl := hv.len
 have hn' : ins.length ≤ fn.ntmps := Nat.le_of_ble_eq_true hn
 have hlt := hv.sub
 let a0 : Act := ⟨(List.toArray vs) ++ Array.replicate (fn.ntmps - (List.toArray vs).size) undef, []⟩
 let I0 : Ip := ⟨fun b => b < w.heap.size ∧ b ∉ F, fun _ => [], fun _ => undef, fun _ => 0⟩
 have hr0 : RelI I0 ⟨w, F, hG⟩ ⟨fn.ntmps, [], []⟩ a0 w := by
  refine ⟨Chg.refl w F, rfl, by simp [a0, hl]; omega, fun i z hi => (by cases hi), fun id r hi => (by cases hi), fun b hb => hb.1, fun id b hb => (by cases hb), fun id r hi => (by cases hi), fun i j _ b hb => (by cases hb)⟩
 obtain ⟨I1, r1⟩ := initC_ok (fun _ _ _ => trivial) hi hr0 (fun b h1 h2 => ⟨h1, h2⟩) hv hnd (fun b hb => ⟨.inr hb, hlt b hb, hth b hb, fun hz => hz.2 hb, fun i hi => by cases hi⟩) fun j v hj => by
  have hjl : j < vs.length := (List.getElem?_eq_some_iff.1 hj).1
  simp only [Nat.zero_add, a0]
  rw [Array.getD_eq_getD_getElem?, Array.getElem?_append_left (by simpa using hjl)]
  simp [hj]
 refine calls_of_wp hf hb (Code.wp_mono ?_ (h ⟨w, F, hG⟩ _ _ ⟨_, r1⟩))
 rintro e a' w' ⟨σ1, h1, I, hI⟩
 have key : Res P fn true out σ1 → a'.defers = [] ∧ ∃ v', (results fn a'.tmps).run P w' = .ok v' w' ∧ CPost w out F (.returned v') w' := fun h1 => by
  obtain ⟨v', F', g1, g2, g3, g4⟩ := h1 I ⟨w, F, hG⟩ a' w' hI
  exact ⟨hI.defers, v', g1, v', F', rfl, g2, (g4 rfl).1, fun b hb => ⟨g3 b hb, (g4 rfl).2 b hb⟩, hI.ext⟩
 cases e with
 | normal => exact key h1
 | ret => exact key h1
 | exit id => exact h1.elim
 | goto l => exact h1.elim
 | panic c => exact h1.elim
 | outgrown => exact h1.elim
theorem RelI.chgF {I : Ip} {w0 : Base} {w w' : World} {a : Act} (h : RelI I w0 σ a w) {G : List Nat} (hG : ∀ b ∈ G, Free I w0 w b) (hc : Chg w w' G) : RelI I w0 σ a w' := by
 have hZ : ∀ b, I.Z b → b ∉ G := fun b hz hb => (hG b hb).2.2.2.1 hz
 have hv : ∀ i, ∀ b ∈ I.F i, b ∉ G := fun i b hb hg => (hG b hg).2.2.2.2 i hb
 have hm : ∀ i, memN [] i = false → ∀ b ∈ I.F i, b ∉ G := fun i _ => hv i
 have hI : I.newF [] I.F = I := by unfold Ip.newF; congr 1
 have hE : ∀ e : E, e.puvL [] = e := fun e => by cases e <;> rfl
 have hA : ∀ e : A, e.puvL [] = e := fun e => by
  cases e with
  | one e => simp only [A.puvL, hE]
  | agg l => simp only [A.puvL]; rw [map_same fun e _ => hE e]
 have hS : ∀ e : S, e.puvL [] = e := fun e => by
  cases e with
  | a x => simp only [S.puvL, hA]
  | tup l => simp only [S.puvL]; rw [map_same fun e _ => hA e]
 refine ⟨Chg.ext h.ext hc fun b hb => (hG b hb).1, h.defers, h.size, fun i x hi => ?_, fun i r hi => ?_, fun b hb => Nat.lt_of_lt_of_le (h.old b hb) hc.size, fun i b hb => ⟨Nat.lt_of_lt_of_le (h.lt i b hb).1 hc.size, (h.lt i b hb).2⟩, fun i r hi => ⟨(h.own i r hi).1, fun b hb => ⟨((h.own i r hi).2 b hb).1, ((h.own i r hi).2 b hb).2.chg hc (hv i b hb)⟩⟩, h.apart⟩
 · have := (h.slots i x hi).puvL (NF := I.F) hc hZ hm
   rw [hI, hS] at this
   exact this
 · have := h.res i r hi
   cases r with
   | row k rows =>
    have this : C true w (.sl k rows) (I.hd i) (I.F i) := this
    exact (this.congr fun b hb => hc.block b (this.lt b hb) (hv i b hb) : C true w' (.sl k rows) (I.hd i) (I.F i))
   | box cs =>
    obtain ⟨h1, vs, t, h2, h3⟩ := this
    refine ⟨h1, vs, t, ?_, ?_⟩
    · exact (hc.block _ (Array.getElem?_eq_some_iff.1 h2).1 (hv i _ (by rw [h1]; simp))).trans h2
    · have := h3.puvL (NF := I.F) hc hZ hm
      rw [hI, map_same fun e _ => hE e] at this
      exact this
   | hdr j x => exact this
   | opq => trivial
   | cur g =>
    have this : I.F i = [g.1] ∧ I.B i = g.1 ∧ CuB I.Z w g := this
    exact ⟨this.1, this.2.1, this.2.2.congr (hc.block _ this.2.2.lt (hv i _ (by rw [this.1]; simp))) fun b hb hz => ⟨hz, hc.block b hb (hZ b hz)⟩⟩
   | mp b f =>
    have this : I.F i = [b] ∧ MapB w b f := this
    exact ⟨this.1, this.2.congr (hc.block _ this.2.lt (hv i _ (by rw [this.1]; simp)))⟩
   | kept K => exact ⟨this.1, fun x hx => ⟨(hc.block x.1 (h.old _ (this.2 x hx).2) (hZ _ (this.2 x hx).2)).trans (this.2 x hx).1, (this.2 x hx).2⟩⟩
inductive ArgRd (σ : St) : List Operand → List (Bool × V0) → Prop where
 | nil : ArgRd σ [] []
 | cons {x : Operand} {A0 : A} {ts : List T} {l : List Operand} {ins : List (Bool × V0)} (hx : Get σ true x A0) (hts : cellsA A0 = ts.map .t) (h : ArgRd σ l ins) : ArgRd σ (x :: l) ((false, V0of A0 ts) :: ins)
inductive ArgC (σ : St) (xo : Operand) (x0 : V0) : List Operand → List (Bool × V0) → Prop where
 | own {l : List Operand} {ins : List (Bool × V0)} (h : ArgRd σ l ins) : ArgC σ xo x0 (xo :: l) ((true, x0) :: ins)
 | cons {x : Operand} {A0 : A} {ts : List T} {l : List Operand} {ins : List (Bool × V0)} (hx : Get σ true x A0) (hts : cellsA A0 = ts.map .t) (h : ArgC σ xo x0 l ins) : ArgC σ xo x0 (x :: l) ((false, V0of A0 ts) :: ins)
theorem ArgRd.one {σ : St} {x : Operand} {t : T} {l : List Operand} {ins : List (Bool × V0)} (hx : Get σ true x (.one (.t t))) (h : ArgRd σ l ins) : ArgRd σ (x :: l) ((false, .one t) :: ins) := .cons (ts := [t]) hx rfl h
theorem ArgRd.agg {σ : St} {x : Operand} {ts : List T} {l : List Operand} {ins : List (Bool × V0)} (hx : Get σ true x (.agg (ts.map .t))) (h : ArgRd σ l ins) : ArgRd σ (x :: l) ((false, .agg ts) :: ins) := .cons hx rfl h
theorem ArgC.one {σ : St} {xo x : Operand} {x0 : V0} {t : T} {l : List Operand} {ins : List (Bool × V0)} (hx : Get σ true x (.one (.t t))) (h : ArgC σ xo x0 l ins) : ArgC σ xo x0 (x :: l) ((false, .one t) :: ins) := .cons (ts := [t]) hx rfl h
theorem ArgC.agg {σ : St} {xo x : Operand} {x0 : V0} {ts : List T} {l : List Operand} {ins : List (Bool × V0)} (hx : Get σ true x (.agg (ts.map .t))) (h : ArgC σ xo x0 l ins) : ArgC σ xo x0 (x :: l) ((false, .agg ts) :: ins) := .cons hx rfl h
theorem VEs_Z {I : Ip} {w : World} : ∀ {ts : List T} {cs : List Value}, VEs I w (ts.map .t) cs → ∃ G, Cs false w ts cs G ∧ ∀ b ∈ G, I.Z b
 | [], cs, h => ⟨[], by unfold Cs; exact ⟨h, rfl⟩, by simp⟩
 | t :: ts, cs, ⟨c, cr, e, ⟨G1, h1, h2⟩, h3⟩ => by
  obtain ⟨G2, g1, g2⟩ := VEs_Z h3
  exact ⟨G1 ++ G2, by unfold Cs; exact ⟨c, cr, G1, G2, e, h1, g1, rfl⟩, fun b hb => by rcases List.mem_append.1 hb with hb | hb; exact h2 b hb; exact g2 b hb⟩
theorem read_Z {I : Ip} {w0 : Base} {w : World} {a : Act} (hr : RelI I w0 σ a w) {x : Operand} {A0 : A} {ts : List T} (hx : Get σ true x A0) (hts : cellsA A0 = ts.map .t) : ∃ G, V0r false w (V0of A0 ts) (a.eval x) G ∧ ∀ b ∈ G, I.Z b := by
 have hv := hx.va hr rfl
 obtain ⟨cs, h1, h2⟩ := V0of_r hv
 rw [hts] at h1
 obtain ⟨G, g1, g2⟩ := VEs_Z h1
 exact ⟨G, (h2 (by rw [hts]; simp)).2 g1, g2⟩
theorem ArgRd.ok {I : Ip} {w0 : Base} {w : World} {a : Act} (hr : RelI I w0 σ a w) {FF : List Nat} (hZ : ∀ b, I.Z b → b ∉ FF) {l : List Operand} {ins : List (Bool × V0)} (h : ArgRd σ l ins) : V0c w FF ins (l.map a.eval) [] := by
 induction h with
 | nil => exact ⟨rfl, rfl⟩
 | cons hx hts h ih =>
  obtain ⟨G, g1, g2⟩ := read_Z hr hx hts
  exact ⟨_, _, G, [], rfl, g1, ih, by simp only [Bool.false_eq_true, if_false]; exact ⟨trivial, fun b hb => hZ b (g2 b hb)⟩⟩
theorem ArgC.ok {I : Ip} {w0 : Base} {w : World} {a : Act} (hr : RelI I w0 σ a w) {F : List Nat} (hZ : ∀ b, I.Z b → b ∉ F) {xo : Operand} {x0 : V0} (hx0 : V0r true w x0 (a.eval xo) F) {l : List Operand} {ins : List (Bool × V0)} (h : ArgC σ xo x0 l ins) : V0c w F ins (l.map a.eval) F := by
 induction h with
 | own h => exact ⟨_, _, F, [], rfl, hx0, h.ok hr hZ, by simp⟩
 | cons hx hts h ih =>
  obtain ⟨G, g1, g2⟩ := read_Z hr hx hts
  exact ⟨_, _, G, F, rfl, g1, ih, by simp only [Bool.false_eq_true, if_false]; exact ⟨trivial, fun b hb => hZ b (g2 b hb)⟩⟩
theorem R_consume {f : FuncId} {xo : Operand} {l : List Operand} {tys : Array TypeId} {ins : List (Bool × V0)} {out : V} {A0 : A} {ts : List T} {σ' : St} {y : S} {rs : List (Nat × R)} (n : Nat) (h : FnC P f ins out) (ho : o.op = .call { callee := .value (.func f), args := l.toArray, argTypes := tys }) (hg : o.guard = none) (hd : o.dst.all (fun d => Nat.blt d σ.n) = true)
 (hx : Get σ true xo A0) (ha : absorb σ (cellsA A0) = some (σ', ts)) (hl : Nat.beq ts.length (cellsA A0).length = true) (hargs : ArgC σ' xo (V0of A0 ts) l ins) (hout : outV n out = some (y, rs)) (hf : (rs.all fun x => !σ'.has x.1) = true) : Op1 P ops o σ ((σ'.adds rs).put o.dst (true, y)) := by
 rintro w0 a w ⟨I, hr⟩ K Q hK
 simp only [Region.wanted, hg, if_true]
 obtain ⟨cs, hes, hcs⟩ := V0of_r (hx.va hr rfl)
 obtain ⟨I', G, r1, r2, r3, r4, _⟩ := RelI.absorb ha hr hes
 have hx0 := (hcs (oo := true) (w' := w) (F := G) (Nat.eq_of_beq_eq_true hl)).2 r2
 have hZ : ∀ b, I'.Z b → b ∉ G := fun b hz hb => (r4 b hb).2.2.2.1 hz
 have hc := hargs.ok r1 hZ hx0
 unfold Oper.wp
 rw [run_enter h.1 ho]
 refine (h.2 w _ G (r1.goodF fun b hb => (r4 b hb).1) hc r3 fun b hb => (r4 b hb).2.2.1).mono fun e w' hR => ?_
 obtain ⟨v, F', rfl, h1, h2, h3, h4⟩ := hR
 have r1' := r1.chgF r4 h4
 have hfree : ∀ b ∈ F', Free I' w0 w' b := fun b hb => by
  rcases (h3 b hb).1 with g | g
  · exact ⟨.inl (Nat.le_trans r1.ext.size g), Vr.lt h1 b hb, (h3 b hb).2, fun hz => by have := r1.old b hz; omega, fun i hi => by have := (r1.lt i b hi).1; omega⟩
  · exact ⟨(r4 b g).1, Vr.lt h1 b hb, (h3 b hb).2, (r4 b g).2.2.2.1, (r4 b g).2.2.2.2⟩
 obtain ⟨I2, g1, g2⟩ := outV_ok hout hf r1' h1 h2 hfree
 refine hK _ _ ⟨I2, g1.put ?_ g2⟩
 have e1 : (σ'.adds rs).n = σ'.n := adds_n rs
 rw [e1, absorb_n ha]; exact hd
variable {w0 : Base} {Q : Exit → St → Prop} {n : Nat} {sl : List (Nat × (Bool × S))} {rs : List (Nat × R)} {l : List Oper}
theorem AWl.consume {d : Nat} {rl : List (Nat × R)} {σ' : St} {x : Bool × S} (ho : Op1 P ops o ⟨n, sl, rs⟩ ((σ'.adds rl).put o.dst x)) (hd : o.dst = some d) (h : AWl P w0 ops Q l ⟨σ'.n, (d, x) :: σ'.slots, addsR rl σ'.res⟩) : AWl P w0 ops Q (o :: l) ⟨n, sl, rs⟩ :=
 AWl.op ho (by rw [hd, show σ' = ⟨σ'.n, σ'.slots, σ'.res⟩ from rfl, adds_eq]; exact h)
end
end Go.Q
