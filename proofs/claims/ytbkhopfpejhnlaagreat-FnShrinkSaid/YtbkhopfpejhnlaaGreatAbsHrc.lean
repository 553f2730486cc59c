import Derived.Test.YtbkhopfpejhnlaaGreatAbsRrc
set_option linter.unusedVariables false
set_option linter.unusedSimpArgs false
namespace Go.Q
open Go.RowKit
section
variable {P : Program} {ops : Array Oper} {o : Oper} {σ : St} {q : Bool}
def V0c (w : World) (FF : List Nat) : List (Bool × V0) → List Value → List Nat → Prop
 | [], vs, F => vs = [] ∧ F = []
 | (o, x) :: r, vs, F => ∃ v vr G1 G2, vs = v :: vr ∧ V0r o w x v G1 ∧ V0c w FF r vr G2 ∧ (if o = true then F = G1 ++ G2 else F = G2 ∧ ∀ b ∈ G1, b ∉ FF)
def CPost (w : World) (out : V) (F : List Nat) (e : Ending) (w' : World) : Prop :=
 ∃ v F', e = .returned v ∧ Vr true w' out v F' ∧ F'.Nodup ∧ (∀ b ∈ F', (w.heap.size ≤ b ∨ b ∈ F) ∧ Thaw w' b) ∧ Chg w w' F
def FnC (P : Program) (f : FuncId) (ins : List (Bool × V0)) (out : V) : Prop := Callee P f ∧ ∀ w vs F, Good w F → V0c w F ins vs F → F.Nodup → (∀ b ∈ F, Thaw w b) → Calls P f (List.toArray vs) w (CPost w out F)
theorem V0c.len {w : World} {FF : List Nat} : ∀ {ins : List (Bool × V0)} {vs : List Value} {F : List Nat}, V0c w FF ins vs F → vs.length = ins.length
 | [], _, _, ⟨h, _⟩ => by subst h; rfl
 | (_, _) :: _, _, _, ⟨v, vr, _, _, rfl, _, h, _⟩ => by simp [h.len]
theorem V0c.sub {w : World} {FF : List Nat} : ∀ {ins : List (Bool × V0)} {vs : List Value} {F : List Nat}, V0c w FF ins vs F → ∀ b ∈ F, b < w.heap.size
 | [], _, _, ⟨_, h⟩, b, hb => by subst h; cases hb
 | (o, x) :: r, _, F, ⟨v, vr, G1, G2, rfl, h1, h2, h3⟩, b, hb => by
  cases o with
  | true =>
   simp only [if_true] at h3
   subst h3
   rcases List.mem_append.1 hb with hb | hb
   · exact h1.lt b hb
   · exact h2.sub b hb
  | false =>
   simp only [Bool.false_eq_true, if_false] at h3
   rw [h3.1] at hb
   exact h2.sub b hb
def initC : Nat → List (Bool × V0) → St → Option St
 | _, [], σ => some σ
 | i, (false, x) :: r, σ => initC (i + 1) r ⟨σ.n, (i, (true, .a (inA x))) :: σ.slots, σ.res⟩
 | i, (true, x) :: r, σ => match outV0 (1000 + 50 * i) x with
  | some (y, rs) => bif (rs.all fun x => !σ.has x.1) then initC (i + 1) r ⟨σ.n, (i, (true, .a y)) :: σ.slots, addsR rs σ.res⟩ else none
  | none => none
theorem initC_ok {w0 : Base} {w : World} {a : Act} {FF : List Nat} (hZ0 : ∀ b, b < w.heap.size → b ∉ FF → True) : ∀ {ins : List (Bool × V0)} {i : Nat} {σ σ' : St} {I : Ip} {vs : List Value} {F : List Nat}, initC i ins σ = some σ' → RelI I w0 σ a w → (∀ b, b < w.heap.size → b ∉ FF → I.Z b) → V0c w FF ins vs F → F.Nodup → (∀ b ∈ F, Free I w0 w b) → (∀ j v, vs[j]? = some v → a.tmps.getD (i + j) undef = v) →
 ∃ I', RelI I' w0 σ' a w
 | [], i, σ, σ', I, vs, F, h, hr, _, _, _, _, _ => by simp only [initC, Option.some.injEq] at h; subst h; exact ⟨I, hr⟩
 | (false, x) :: r, i, σ, σ', I, vs, F, h, hr, hZ, ⟨v, vr, G1, G2, e, h1, h2, h3⟩, hn, hf, hv => by
  subst e
  rw [initC] at h
  simp only [Bool.false_eq_true, if_false] at h3
  obtain ⟨rfl, h3⟩ := h3
  refine initC_ok hZ0 h (hr.reslot ?_) hZ h2 hn hf fun j u hj => ?_
  · rw [show a.tmps.getD i undef = v from hv 0 v rfl]
    exact VA_also h1 fun b hb => hZ b (h1.lt b hb) (h3 b hb)
  · rw [show i + 1 + j = i + (j + 1) by omega]; exact hv (j + 1) u (by simpa using hj)
 | (true, x) :: r, i, σ, σ', I, vs, F, h, hr, hZ, ⟨v, vr, G1, G2, e, h1, h2, h3⟩, hn, hf, hv => by
  subst e
  rw [initC] at h
  simp only [if_true] at h3
  subst h3
  split at h
  · rename_i y rs hy
    cases hb : (rs.all fun x => !σ.has x.1) with
    | false => rw [hb] at h; cases h
    | true =>
     rw [hb] at h
     obtain ⟨n1, n2, n3⟩ := List.nodup_append.1 hn
     obtain ⟨I1, r1, r2, r3, r4⟩ := outV0_ok hy hb hr h1 n1 fun b hb => hf b (by simp [hb])
     have e1 : σ.adds rs = ⟨σ.n, σ.slots, addsR rs σ.res⟩ := adds_eq rs σ.n σ.slots σ.res
     rw [e1] at r1
     refine initC_ok hZ0 (σ := ⟨σ.n, (i, (true, .a y)) :: σ.slots, addsR rs σ.res⟩) h (r1.reslot ?_) (by rw [r3.1]; exact hZ) h2 n2 (fun b hb => r4 b (hf b (by simp [hb])) fun hm => n3 b hm b hb rfl) fun j u hj => ?_
     · rw [show a.tmps.getD i undef = v from hv 0 v rfl]; exact r2
     · rw [show i + 1 + j = i + (j + 1) by omega]; exact hv (j + 1) u (by simpa using hj)
  · cases h
theorem FnC.walk {n : Nat} {f : FuncId} {fn : Func} {c : Code} {ins : List (Bool × V0)} {out : V} {σ' : St} (hf : P.funcs[f]? = some fn) (hb : fn.body = some c) (hname : (fn.name == "runtime.NumGoroutine") = false) (hnt : fn.ntmps = n) (hn : Nat.ble ins.length n = true) (hi : initC 0 ins ⟨n, [], []⟩ = some σ')
 (h : ∀ w0, AW P w0 c (RetQ P fn true out) σ') : FnC P f ins out := by
 subst hnt
 refine ⟨⟨fn, hf, hname, by rw [hb]; rfl⟩, fun w vs F hG hv hnd hth => ?_⟩
 have hl := hv.len
 have hn' : ins.length ≤ fn.ntmps := Nat.le_of_ble_eq_true hn
 have hlt := hv.sub
 let a0 : Act := ⟨(List.toArray vs) ++ Array.replicate (fn.ntmps - (List.toArray vs).size) undef, []⟩
 let I0 : Ip := ⟨fun b => b < w.heap.size ∧ b ∉ F, fun _ => [], fun _ => undef, fun _ => 0⟩
 have hr0 : RelI I0 ⟨w, F, hG⟩ ⟨fn.ntmps, [], []⟩ a0 w := by
  refine ⟨Chg.refl w F, rfl, by simp [a0, hl]; omega, fun i z hi => (by cases hi), fun id r hi => (by cases hi), fun b hb => hb.1, fun id b hb => (by cases hb), fun id r hi => (by cases hi), fun i j _ b hb => (by cases hb)⟩
 obtain ⟨I1, r1⟩ := initC_ok (fun _ _ _ => trivial) hi hr0 (fun b h1 h2 => ⟨h1, h2⟩) hv hnd (fun b hb => ⟨.inr hb, hlt b hb, hth b hb, fun hz => hz.2 hb, fun i hi => by cases hi⟩) fun j v hj => by
  have hjl : j < vs.length := (List.getElem?_eq_some_iff.1 hj).1
  simp only [Nat.zero_add, a0]
  rw [Array.getD_eq_getD_getElem?, Array.getElem?_append_left (by simpa using hjl)]
  simp [hj]
 refine calls_of_wp hf hb (Code.wp_mono ?_ (h ⟨w, F, hG⟩ _ _ ⟨_, r1⟩))
 rintro e a' w' ⟨σ1, h1, I, hI⟩
 have key : Res P fn true out σ1 → a'.defers = [] ∧ ∃ v', (results fn a'.tmps).run P w' = .ok v' w' ∧ CPost w out F (.returned v') w' := fun h1 => by
  obtain ⟨v', F', g1, g2, g3, g4⟩ := h1 I ⟨w, F, hG⟩ a' w' hI
  exact ⟨hI.defers, v', g1, v', F', rfl, g2, (g4 rfl).1, fun b hb => ⟨g3 b hb, (g4 rfl).2 b hb⟩, hI.ext⟩
 cases e with
 | normal => exact key h1
 | ret => exact key h1
 | exit id => exact h1.elim
 | goto l => exact h1.elim
 | panic c => exact h1.elim
 | outgrown => exact h1.elim
theorem RelI.chgF {I : Ip} {w0 : Base} {w w' : World} {a : Act} (h : RelI I w0 σ a w) {G : List Nat} (hG : ∀ b ∈ G, Free I w0 w b) (hc : Chg w w' G) : RelI I w0 σ a w' := by
 have hZ : ∀ b, I.Z b → b ∉ G := fun b hz hb => (hG b hb).2.2.2.1 hz
 have hv : ∀ i, ∀ b ∈ I.F i, b ∉ G := fun i b hb hg => (hG b hg).2.2.2.2 i hb
 have hm : ∀ i, memN [] i = false → ∀ b ∈ I.F i, b ∉ G := fun i _ => hv i
 have hI : I.newF [] I.F = I := by unfold Ip.newF; congr 1
 have hE : ∀ e : E, e.puvL [] = e := fun e => by cases e <;> rfl
 have hA : ∀ e : A, e.puvL [] = e := fun e => by
  cases e with
  | one e => simp only [A.puvL, hE]
  | agg l => simp only [A.puvL]; rw [map_same fun e _ => hE e]
 have hS : ∀ e : S, e.puvL [] = e := fun e => by
  cases e with
  | a x => simp only [S.puvL, hA]
  | tup l => simp only [S.puvL]; rw [map_same fun e _ => hA e]
 refine ⟨Chg.ext h.ext hc fun b hb => (hG b hb).1, h.defers, h.size, fun i x hi => ?_, fun i r hi => ?_, fun b hb => Nat.lt_of_lt_of_le (h.old b hb) hc.size, fun i b hb => ⟨Nat.lt_of_lt_of_le (h.lt i b hb).1 hc.size, (h.lt i b hb).2⟩, fun i r hi => ⟨(h.own i r hi).1, fun b hb => ⟨((h.own i r hi).2 b hb).1, ((h.own i r hi).2 b hb).2.chg hc (hv i b hb)⟩⟩, h.apart⟩
 · have := (h.slots i x hi).puvL (NF := I.F) hc hZ hm
   rw [hI, hS] at this
   exact this
 · have := h.res i r hi
   cases r with
   | row k rows =>
    have this : C true w (.sl k rows) (I.hd i) (I.F i) := this
    exact (this.congr fun b hb => hc.block b (this.lt b hb) (hv i b hb) : C true w' (.sl k rows) (I.hd i) (I.F i))
   | box cs =>
    obtain ⟨h1, vs, t, h2, h3⟩ := this
    refine ⟨h1, vs, t, ?_, ?_⟩
    · exact (hc.block _ (Array.getElem?_eq_some_iff.1 h2).1 (hv i _ (by rw [h1]; simp))).trans h2
    · have := h3.puvL (NF := I.F) hc hZ hm
      rw [hI, map_same fun e _ => hE e] at this
      exact this
   | hdr j x => exact this
   | opq => trivial
   | cur g =>
    have this : I.F i = [g.1] ∧ I.B i = g.1 ∧ CuB I.Z w g := this
    exact ⟨this.1, this.2.1, this.2.2.congr (hc.block _ this.2.2.lt (hv i _ (by rw [this.1]; simp))) fun b hb hz => ⟨hz, hc.block b hb (hZ b hz)⟩⟩
   | kept K => exact ⟨this.1, fun x hx => ⟨(hc.block x.1 (h.old _ (this.2 x hx).2) (hZ _ (this.2 x hx).2)).trans (this.2 x hx).1, (this.2 x hx).2⟩⟩
inductive ArgRd (σ : St) : List Operand → List (Bool × V0) → Prop where
 | nil : ArgRd σ [] []
 | cons {x : Operand} {A0 : A} {ts : List T} {l : List Operand} {ins : List (Bool × V0)} (hx : Get σ true x A0) (hts : cellsA A0 = ts.map .t) (h : ArgRd σ l ins) : ArgRd σ (x :: l) ((false, V0of A0 ts) :: ins)
inductive ArgC (σ : St) (xo : Operand) (x0 : V0) : List Operand → List (Bool × V0) → Prop where
 | own {l : List Operand} {ins : List (Bool × V0)} (h : ArgRd σ l ins) : ArgC σ xo x0 (xo :: l) ((true, x0) :: ins)
 | cons {x : Operand} {A0 : A} {ts : List T} {l : List Operand} {ins : List (Bool × V0)} (hx : Get σ true x A0) (hts : cellsA A0 = ts.map .t) (h : ArgC σ xo x0 l ins) : ArgC σ xo x0 (x :: l) ((false, V0of A0 ts) :: ins)
theorem ArgRd.one {σ : St} {x : Operand} {t : T} {l : List Operand} {ins : List (Bool × V0)} (hx : Get σ true x (.one (.t t))) (h : ArgRd σ l ins) : ArgRd σ (x :: l) ((false, .one t) :: ins) := .cons (ts := [t]) hx rfl h
theorem ArgRd.agg {σ : St} {x : Operand} {ts : List T} {l : List Operand} {ins : List (Bool × V0)} (hx : Get σ true x (.agg (ts.map .t))) (h : ArgRd σ l ins) : ArgRd σ (x :: l) ((false, .agg ts) :: ins) := .cons hx rfl h
theorem ArgC.one {σ : St} {xo x : Operand} {x0 : V0} {t : T} {l : List Operand} {ins : List (Bool × V0)} (hx : Get σ true x (.one (.t t))) (h : ArgC σ xo x0 l ins) : ArgC σ xo x0 (x :: l) ((false, .one t) :: ins) := .cons (ts := [t]) hx rfl h
theorem ArgC.agg {σ : St} {xo x : Operand} {x0 : V0} {ts : List T} {l : List Operand} {ins : List (Bool × V0)} (hx : Get σ true x (.agg (ts.map .t))) (h : ArgC σ xo x0 l ins) : ArgC σ xo x0 (x :: l) ((false, .agg ts) :: ins) := .cons hx rfl h
theorem VEs_Z {I : Ip} {w : World} : ∀ {ts : List T} {cs : List Value}, VEs I w (ts.map .t) cs → ∃ G, Cs false w ts cs G ∧ ∀ b ∈ G, I.Z b
 | [], cs, h => ⟨[], by unfold Cs; exact ⟨h, rfl⟩, by simp⟩
 | t :: ts, cs, ⟨c, cr, e, ⟨G1, h1, h2⟩, h3⟩ => by
  obtain ⟨G2, g1, g2⟩ := VEs_Z h3
  exact ⟨G1 ++ G2, by unfold Cs; exact ⟨c, cr, G1, G2, e, h1, g1, rfl⟩, fun b hb => by rcases List.mem_append.1 hb with hb | hb; exact h2 b hb; exact g2 b hb⟩
theorem read_Z {I : Ip} {w0 : Base} {w : World} {a : Act} (hr : RelI I w0 σ a w) {x : Operand} {A0 : A} {ts : List T} (hx : Get σ true x A0) (hts : cellsA A0 = ts.map .t) : ∃ G, V0r false w (V0of A0 ts) (a.eval x) G ∧ ∀ b ∈ G, I.Z b := by
 have hv := hx.va hr rfl
 obtain ⟨cs, h1, h2⟩ := V0of_r hv
 rw [hts] at h1
 obtain ⟨G, g1, g2⟩ := VEs_Z h1
 exact ⟨G, (h2 (by rw [hts]; simp)).2 g1, g2⟩
theorem ArgRd.ok {I : Ip} {w0 : Base} {w : World} {a : Act} (hr : RelI I w0 σ a w) {FF : List Nat} (hZ : ∀ b, I.Z b → b ∉ FF) {l : List Operand} {ins : List (Bool × V0)} (h : ArgRd σ l ins) : V0c w FF ins (l.map a.eval) [] := by
 induction h with
 | nil => exact ⟨rfl, rfl⟩
 | cons hx hts h ih =>
  obtain ⟨G, g1, g2⟩ := read_Z hr hx hts
  exact ⟨_, _, G, [], rfl, g1, ih, by simp only [Bool.false_eq_true, if_false]; exact ⟨trivial, fun b hb => hZ b (g2 b hb)⟩⟩
theorem ArgC.ok {I : Ip} {w0 : Base} {w : World} {a : Act} (hr : RelI I w0 σ a w) {F : List Nat} (hZ : ∀ b, I.Z b → b ∉ F) {xo : Operand} {x0 : V0} (hx0 : V0r true w x0 (a.eval xo) F) {l : List Operand} {ins : List (Bool × V0)} (h : ArgC σ xo x0 l ins) : V0c w F ins (l.map a.eval) F := by
 induction h with
 | own h => exact ⟨_, _, F, [], rfl, hx0, h.ok hr hZ, by simp⟩
 | cons hx hts h ih =>
  obtain ⟨G, g1, g2⟩ := read_Z hr hx hts
  exact ⟨_, _, G, F, rfl, g1, ih, by simp only [Bool.false_eq_true, if_false]; exact ⟨trivial, fun b hb => hZ b (g2 b hb)⟩⟩
theorem R_consume {f : FuncId} {xo : Operand} {l : List Operand} {tys : Array TypeId} {ins : List (Bool × V0)} {out : V} {A0 : A} {ts : List T} {σ' : St} {y : S} {rs : List (Nat × R)} (n : Nat) (h : FnC P f ins out) (ho : o.op = .call { callee := .value (.func f), args := l.toArray, argTypes := tys }) (hg : o.guard = none) (hd : o.dst.all (fun d => Nat.blt d σ.n) = true)
 (hx : Get σ true xo A0) (ha : absorb σ (cellsA A0) = some (σ', ts)) (hl : Nat.beq ts.length (cellsA A0).length = true) (hargs : ArgC σ' xo (V0of A0 ts) l ins) (hout : outV n out = some (y, rs)) (hf : (rs.all fun x => !σ'.has x.1) = true) : Op1 P ops o σ ((σ'.adds rs).put o.dst (true, y)) := by
 rintro w0 a w ⟨I, hr⟩ K Q hK
 simp only [Region.wanted, hg, if_true]
 obtain ⟨cs, hes, hcs⟩ := V0of_r (hx.va hr rfl)
 obtain ⟨I', G, r1, r2, r3, r4, _⟩ := RelI.absorb ha hr hes
 have hx0 := (hcs (oo := true) (w' := w) (F := G) (Nat.eq_of_beq_eq_true hl)).2 r2
 have hZ : ∀ b, I'.Z b → b ∉ G := fun b hz hb => (r4 b hb).2.2.2.1 hz
 have hc := hargs.ok r1 hZ hx0
 unfold Oper.wp
 rw [run_enter h.1 ho]
 refine (h.2 w _ G (r1.goodF fun b hb => (r4 b hb).1) hc r3 fun b hb => (r4 b hb).2.2.1).mono fun e w' hR => ?_
 obtain ⟨v, F', rfl, h1, h2, h3, h4⟩ := hR
 have r1' := r1.chgF r4 h4
 have hfree : ∀ b ∈ F', Free I' w0 w' b := fun b hb => by
  rcases (h3 b hb).1 with g | g
  · exact ⟨.inl (Nat.le_trans r1.ext.size g), Vr.lt h1 b hb, (h3 b hb).2, fun hz => by have := r1.old b hz; omega, fun i hi => by have := (r1.lt i b hi).1; omega⟩
  · exact ⟨(r4 b g).1, Vr.lt h1 b hb, (h3 b hb).2, (r4 b g).2.2.2.1, (r4 b g).2.2.2.2⟩
 obtain ⟨I2, g1, g2⟩ := outV_ok hout hf r1' h1 h2 hfree
 refine hK _ _ ⟨I2, g1.put ?_ g2⟩
 have e1 : (σ'.adds rs).n = σ'.n := adds_n rs
 rw [e1, absorb_n ha]; exact hd
variable {w0 : Base} {Q : Exit → St → Prop} {n : Nat} {sl : List (Nat × (Bool × S))} {rs : List (Nat × R)} {l : List Oper}
theorem AWl.consume {d : Nat} {rl : List (Nat × R)} {σ' : St} {x : Bool × S} (ho : Op1 P ops o ⟨n, sl, rs⟩ ((σ'.adds rl).put o.dst x)) (hd : o.dst = some d) (h : AWl P w0 ops Q l ⟨σ'.n, (d, x) :: σ'.slots, addsR rl σ'.res⟩) : AWl P w0 ops Q (o :: l) ⟨n, sl, rs⟩ :=
 AWl.op ho (by rw [hd, show σ' = ⟨σ'.n, σ'.slots, σ'.res⟩ from rfl, adds_eq]; exact h)
end
end Go.Q
namespace Go.Q
open Go.RowKit
section
variable {P : Program} {ops : Array Oper} {o : Oper} {σ : St} {q : Bool}
variable {w0 : Base} {Q : Exit → St → Prop} {n : Nat} {sl : List (Nat × (Bool × S))} {rs : List (Nat × R)} {l : List Oper}
theorem RelI.take {I : Ip} {w : World} {a : Act} {id k i p k2 : Nat} (nid : Nat) {rows rows2 : List (List T)} {row : List T} (hr : RelI I w0 ⟨n, sl, rs⟩ a w) (hs : look rs id = some (.row k rows)) (hi : rows[i]? = some row) (hp : row[p]? = some (.sl k2 rows2))
 (hf : ∀ c0, St.has ⟨n, puvS id sl, updR id (.row k (rows.set i (row.take p ++ .v c0 :: row.drop (p + 1)))) rs⟩ nid = false) :
 ∃ c I', (∃ a l k, c = .slice a l k) ∧ RelI I' w0 ⟨n, puvS id sl, (nid, .row k2 rows2) :: updR id (.row k (rows.set i (row.take p ++ .v c :: row.drop (p + 1)))) rs⟩ a w ∧ I'.hd nid = c ∧ ∀ g n' m', I.hd id = .slice (some ⟨g, 0, none⟩) n' m' → w.cell? ⟨g, i * k + p, none⟩ = some c := by
 have hC : C true w (.sl k rows) _ _ := hr.res id _ hs
 have own := hr.own id _ hs
 simp only [C] at hC
 obtain ⟨a0, len, cap, g1, g2, g3, g4, g5⟩ := hC
 have hlti : i < rows.length := (List.getElem?_eq_some_iff.1 hi).1
 rcases g5 with ⟨g5, _⟩ | ⟨g, off, Gr, rfl, hF, g6, g7, g8⟩
 · omega
 obtain ⟨rfl, cur, e, hcur, hcs⟩ := g7 trivial
 have hg1 := g1
 rw [hF] at own
 obtain ⟨u1, xs, u2, u3, u4⟩ := g8.flat
 simp only [Nat.zero_add] at u4
 obtain ⟨p1, _⟩ := set_split (.sl k2 rows2 : T) hp
 have hrk : row.length = k := u1 row (List.mem_of_getElem? hi)
 have hpl : p < row.length := (List.getElem?_eq_some_iff.1 hp).1
 have s1 := (set_split row hi).1
 have e1 : rows.flatten = ((rows.take i).flatten ++ row.take p) ++ ([.sl k2 rows2] ++ (row.drop (p + 1) ++ (rows.drop (i + 1)).flatten)) := by
  conv => lhs; rw [s1, p1]
  simp
 rw [e1] at u2
 obtain ⟨x1, x23, F1, F23, rfl, rfl, v1, v2, v3⟩ := u2.split
 obtain ⟨x2, x3, F2, F3, rfl, rfl, v4, v5, v6⟩ := v2.split
 match x2, v6 with
 | [c], _ =>
 have v4' : C true w (.sl k2 rows2) c F2 := by
  rw [Cs] at v4
  obtain ⟨c', cr, G1, G2, e, h1, h2, rfl⟩ := v4
  cases e
  rw [Cs] at h2
  obtain ⟨_, rfl⟩ := h2
  simpa using h1
 have hfl : ((rows.take i).flatten).length = i * k := by
  have key : ∀ (l : List (List T)), (∀ r ∈ l, r.length = k) → l.flatten.length = l.length * k := by
   intro l
   induction l with
   | nil => intro _; simp
   | cons r l ih => intro h; rw [List.flatten_cons, List.length_append, ih fun r hr => h r (by simp [hr]), h r (by simp), List.length_cons, Nat.succ_mul]; omega
  rw [key _ fun r hr => u1 r (List.mem_of_mem_take hr), List.length_take, Nat.min_eq_left (Nat.le_of_lt hlti)]
 have lx1 : x1.length = i * k + p := by rw [v3, List.length_append, hfl, List.length_take]; omega
 have hc := u4 (i * k + p) c (by rw [← lx1, List.getElem?_append_right (Nat.le_refl _), Nat.sub_self]; rfl)
 have hsl : ∃ a l k, c = .slice a l k := by
  simp only [C] at v4'
  obtain ⟨a1, l1, c1, e, _⟩ := v4'
  exact ⟨_, _, _, e⟩
 have hnd := List.nodup_cons.1 own.1
 obtain ⟨d1, d23, d12⟩ := List.nodup_append.1 hnd.2
 obtain ⟨d2, d3, d23'⟩ := List.nodup_append.1 d23
 have inG : ∀ b, b ∈ g :: (F1 ++ F3) → b ∈ g :: (F1 ++ (F2 ++ F3)) ∧ b ∉ F2 := fun b hb => by
  rcases List.mem_cons.1 hb with rfl | hb
  · exact ⟨by simp, fun hm => hnd.1 (by simp [hm])⟩
  · rcases List.mem_append.1 hb with hb | hb
    · exact ⟨by simp [hb], fun hm => d12 b hb b (by simp [hm]) rfl⟩
    · exact ⟨by simp [hb], fun hm => d23' b hm b hb rfl⟩
 have r1 := hr.upd (G := g :: (F1 ++ F3)) (r := .row k (rows.set i (row.take p ++ .v c :: row.drop (p + 1)))) hs (Chg.refl w _) ⟨List.nodup_cons.2 ⟨fun hm => ?_, List.nodup_append.2 ⟨d1, d3, fun b hb b' hb' e => ?_⟩⟩, fun b hb => ?_⟩ ?_
 · have r2 := r1.addF (hf c) (G := F2) (u := c) (b := 0) (r := .row k2 rows2) d2 (fun b hb => ?_) (by
    show C true w (.sl k2 rows2) _ _
    simp only [Ip.set, if_true]
    exact v4')
   · refine ⟨c, _, hsl, r2, by simp only [Ip.set, if_true], fun g0 n0 m0 h0 => ?_⟩
     rw [hg1] at h0
     cases h0
     exact hc
   · obtain ⟨o1, cc, ee, o2⟩ := own.2 b (by simp [hb])
     have hlt : b < w.heap.size := (Array.getElem?_eq_some_iff.1 o2).1
     refine ⟨o1, hlt, ⟨cc, ee, o2⟩, fun hz => (hr.lt id b (by rw [hF]; simp [hb])).2 hz, fun j hj => ?_⟩
     by_cases ej : j = id
     · simp only [Ip.set, if_pos ej] at hj
       exact (inG b hj).2 hb
     · simp only [Ip.set, if_neg ej] at hj
       exact hr.apart j id ej b hj (by rw [hF]; simp [hb])
 · rcases List.mem_append.1 hm with hm | hm
   · exact hnd.1 (by simp [hm])
   · exact hnd.1 (by simp [hm])
 · subst e
   exact d12 b hb b (by simp [hb']) rfl
 · obtain ⟨hin, _⟩ := inG b hb
   obtain ⟨o1, cc, ee, o2⟩ := own.2 b hin
   exact ⟨o1, (Array.getElem?_eq_some_iff.1 o2).1, ⟨cc, ee, o2⟩, .inl (by rw [hF]; exact hin)⟩
 · show C true _ _ _ _
   simp only [Ip.set, if_true]
   unfold C
   refine ⟨_, _, _, hg1, by simpa using g2, g3, g4, .inr ⟨g, 0, F1 ++ F3, rfl, rfl, g6, fun _ => ⟨rfl, cur, e, hcur, hcs⟩, Rws.of (xs := x1 ++ ([c] ++ x3)) (fun r hm => ?_) ?_ fun j u hj => ?_⟩⟩
   · rcases List.mem_or_eq_of_mem_set hm with hm | rfl
     · exact u1 r hm
     · simp only [List.length_append, List.length_take, List.length_cons, List.length_drop]
       omega
   · rw [(set_split (row.take p ++ .v c :: row.drop (p + 1)) hi).2]
     have ef : (rows.take i ++ (row.take p ++ .v c :: row.drop (p + 1)) :: rows.drop (i + 1)).flatten = ((rows.take i).flatten ++ row.take p) ++ ([.v c] ++ (row.drop (p + 1) ++ (rows.drop (i + 1)).flatten)) := by simp
     rw [ef]
     refine v1.append (Cs.append (F := []) ?_ v5)
     unfold Cs
     obtain ⟨a1, l1, c1, rfl⟩ := hsl
     exact ⟨_, [], [], [], rfl, by unfold C; exact ⟨rfl, rfl, rfl⟩, by unfold Cs; exact ⟨rfl, rfl⟩, rfl⟩
   · rw [Nat.zero_add]
     exact u4 j u hj
theorem AW.takeR {code : Code} {id k i p k2 : Nat} (nid hid : Nat) {rows rows2 : List (List T)} {row : List T} (hs : look rs id = some (.row k rows)) (hi : rows[i]? = some row) (hp : row[p]? = some (.sl k2 rows2))
 (hf : ∀ c0, St.has ⟨n, puvS id sl, updR id (.row k (rows.set i (row.take p ++ .v c0 :: row.drop (p + 1)))) rs⟩ nid = false)
 (hf2 : ∀ c0, St.has ⟨n, puvS id sl, (nid, .row k2 rows2) :: updR id (.row k (rows.set i (row.take p ++ .v c0 :: row.drop (p + 1)))) rs⟩ hid = false)
 (h : ∀ c0, AW P w0 code Q ⟨n, puvS id sl, (hid, .hdr (some nid) c0) :: (nid, .row k2 rows2) :: updR id (.row k (rows.set i (row.take p ++ .v c0 :: row.drop (p + 1)))) rs⟩) : AW P w0 code Q ⟨n, sl, rs⟩ := fun a w ⟨I, hr⟩ => by
 obtain ⟨c, I', h1, h2, h3, h4⟩ := hr.take nid hs hi hp hf
 have hne : nid ≠ hid := fun e => by
  have := hf2 c
  simp [St.has, e, Nat.beq_refl] at this
 refine h c a w ⟨_, h2.addF (id := hid) (G := []) (u := undef) (b := 0) (r := .hdr (some nid) c) (hf2 c) List.nodup_nil (by simp) ⟨by simp [Ip.set], fun j hj => ?_⟩⟩
 cases hj
 simp only [Ip.set, if_neg hne]
 exact h3
end
end Go.Q
namespace Go.Q
open Go.RowKit
section
variable {P : Program} {ops : Array Oper} {o : Oper} {σ : St} {q : Bool}
theorem C.hdr {o : Bool} {w : World} {k : Nat} {rows : List (List T)} {a : Option Addr} {n m : Nat} {F : List Nat} (h : C o w (.sl k rows) (.slice a n m) F) : rows.length = n ∧ n ≤ m ∧ m ≤ maxLen := by
 simp only [C] at h
 obtain ⟨a', n', m', e, h1, h2, h3, _⟩ := h
 cases e
 exact ⟨h1, h2, h3⟩
theorem C.blk {w : World} {k : Nat} {rows : List (List T)} {a : Option Addr} {n m : Nat} {F : List Nat} (h : C true w (.sl k rows) (.slice a n m) F) : (m = 0 ∧ F = [] ∧ rows = []) ∨ ∃ g G cur e, a = some ⟨g, 0, none⟩ ∧ F = g :: G ∧ w.heap[g]? = some (.cells cur e (0, 0)) ∧ cur.size = m * k ∧ Rws true w g k 0 rows G := by
 simp only [C] at h
 obtain ⟨a', n', m', e, h1, h2, h3, h4⟩ := h
 cases e
 rcases h4 with ⟨h4, rfl, h5⟩ | ⟨b, off, G, rfl, rfl, h6, h7, h8⟩
 · exact .inl ⟨h5 trivial, rfl, List.eq_nil_of_length_eq_zero (by omega)⟩
 · obtain ⟨rfl, cur, e, h9, h10⟩ := h7 trivial
   exact .inr ⟨b, G, cur, e, rfl, rfl, h9, h10, h8⟩
theorem R_len_tl {id k j : Nat} {rows : List (List T)} {x : Operand} {t e : TypeId} (ho : o.op = .call { callee := .builtin .len, args := #[x], argTypes := #[t] }) (hg : Grd ops o σ q) (hd : o.dst.all (fun d => Nat.blt d σ.n) = true)
 (hx : Get σ q x (.one (.tl id k j))) (hs : look σ.res id = some (.row k rows)) (hu : P.underlying t = some (.slice e)) : Op1 P ops o σ (σ.put o.dst (q, .a (.one (.t (.v (.int .i64 ((rows.length - j : Nat) : Int))))))) :=
 .val hg hd fun I w0 a w hr hq => by
  obtain ⟨a0, a', n, m, h1, h2, h3, h4, h5⟩ : VE I w (.tl id k j) (a.eval x) := hx.va hr hq
  have hC : C true w (.sl k rows) (I.hd id) (I.F id) := hr.res id _ hs
  rw [h1] at hC
  obtain ⟨e1, e2, e3⟩ := hC.hdr
  refine ⟨.int .i64 ((rows.length - j : Nat) : Int), ?_, [], by unfold C; exact ⟨rfl, rfl, rfl⟩, by simp⟩
  simp [execOp, ho, resolve, invoke, builtin, Builtin.len_, h2, run_underlying hu, Builtin.lenOf, e1]
  rfl
theorem R_indexAddr_tl {id k j : Nat} {t e : TypeId} {x y : Operand} {n : Int} {ag : Bool} {rows : List (List T)} {row : List T} (ho : o.op = .indexAddr t x y) (hg : Grd ops o σ q) (hd : o.dst.all (fun d => Nat.blt d σ.n) = true) (hx : Get σ q x (.one (.tl id k j)))
 (hs : look σ.res id = some (.row k rows)) (hy : Get σ q y (.one (.t (.v (.int .i64 n))))) (hu : P.underlying t = some (.slice e)) (hk : tyB P e ag k = true) (hi : q = true → 0 ≤ n ∧ rows[j + n.toNat]? = some row) : Op1 P ops o σ (σ.put o.dst (q, .a (.one (.pr id k (j + n.toNat) 0)))) :=
 .val hg hd fun I w0 a w hr hq => by
  obtain ⟨a0, a', N, M, h1, h2, h3, h4, h5⟩ : VE I w (.tl id k j) (a.eval x) := hx.va hr hq
  have hC : C true w (.sl k rows) (I.hd id) (I.F id) := hr.res id _ hs
  rw [h1] at hC
  obtain ⟨e1, e2, e3⟩ := hC.hdr
  obtain ⟨h0, hi⟩ := hi hq
  have hlt : j + n.toNat < rows.length := (List.getElem?_eq_some_iff.1 hi).1
  obtain ⟨g, rfl, rfl⟩ := h5 (by omega)
  have hn : n < ((N - j : Nat) : Int) := by omega
  refine ⟨.pointer (some ⟨g, j * k + n.toNat * k, none⟩), ?_, g, N, M, h1, by rw [Nat.add_mul]; simp⟩
  simp [execOp, ho, hy.int hr hq, h2, Instr.indexAt, asIntOf, run_underlying hu, h0, hn, tyB_size hk, Addr.add_lit]
theorem R_slice_rf {id k m : Nat} {t e : TypeId} {x : Operand} {lo : Option Operand} {ag : Bool} {rows : List (List T)} (ho : o.op = .slice t x lo none none) (hg : Grd ops o σ q) (hd : o.dst.all (fun d => Nat.blt d σ.n) = true) (hx : Get σ q x (.one (.rf id)))
 (hs : look σ.res id = some (.row k rows)) (hl : Bnd σ q lo 0 m) (hu : P.underlying t = some (.slice e)) (hk : tyB P e ag k = true) (hb : q = true → m ≤ rows.length) : Op1 P ops o σ (σ.put o.dst (q, .a (.one (.tl id k m)))) :=
 .val hg hd fun I w0 a w hr hq => by
  obtain ⟨h1, a0, N, M, h2⟩ : VE I w (.rf id) (a.eval x) := hx.va hr hq
  have hC : C true w (.sl k rows) (I.hd id) (I.F id) := hr.res id _ hs
  rw [← h1, h2] at hC
  obtain ⟨e1, e2, e3⟩ := hC.hdr
  have hb := hb hq
  have hrun : (Instr.sliceAt t (.slice a0 N M) (lo.map a.eval) none none).run P w = .ok (.slice (if M = m then a0 else a0.map (·.add (m * k))) (N - m) (M - m)) w := by
   have b1 : m ≤ M := by omega
   have b2 : m ≤ N := by omega
   rcases hl.val hr hq with ⟨h6, rfl⟩ | h6 <;> rw [h6] <;> simp [Instr.sliceAt, Instr.slice, run_underlying hu, Instr.sliceBounds, Instr.sliceBound, asIntOf, tyB_size hk, b1, b2, e2]
  refine ⟨.slice (if M = m then a0 else a0.map (·.add (m * k))) (N - m) (M - m), by simp [execOp, ho, h2, hrun], a0, (if M = m then a0 else a0.map (·.add (m * k))), N, M, by rw [← h1, h2], rfl, by omega, e2, fun hm => ?_⟩
  rcases hC.blk with ⟨h3, _⟩ | ⟨g, G, cur, e, rfl, _⟩
  · omega
  · refine ⟨g, rfl, ?_⟩
    rw [if_neg (by omega)]
    simp [Addr.add_lit]
theorem run_append_at (w : World) (t ty e e0 : TypeId) (i : TypeInfo) (ht : P.underlying t = some (.slice e)) (hi : P.info? e = some i)
 (g p sLen sCap : Nat) (cur : Array Value) (hg : w.heap[g]? = some (.cells cur e0 (0, 0)))
 (a : Addr) (m c : Nat) (news : List Value) (hl : news.length = m * i.size) (hnews : ∀ j u, news[j]? = some u → w.cell? (a.add j) = some u) (h1 : ∀ u ∈ news, u.oneCell' = true)
 (hroom : sLen + m ≤ sCap) (hfit : p + sLen * i.size + news.length ≤ cur.size) :
 (Builtin.append_ #[t, t] ty #[.slice (some ⟨g, p, none⟩) sLen sCap, .slice (some a) m c]).run P w =
  .ok (.slice (some ⟨g, p, none⟩) (sLen + m) sCap) (w.setRow g (cur.toList.take (p + sLen * i.size) ++ news ++ cur.toList.drop (p + sLen * i.size + news.length)).toArray) := by
 have hf := run_firstCells_some (P := P) w i.size m a m c news hl hnews
 have hst := run_storeCells_at P g (p + sLen * i.size) e0 news 0 cur w hg (by simpa using hfit) h1
 simp only [Nat.add_zero] at hst
 simp [Builtin.append_, run_underlying ht, sizeOf, typeInfo, hi, Builtin.lenOf, hroom, hf, Addr.add_lit, hst]
theorem Cs.cell1' {o : Bool} {w : World} {ts : List T} {cs : List Value} {F : List Nat} (h : Cs o w ts cs F) : ∀ u ∈ cs, u.oneCell' = true := by
 intro u hu
 obtain ⟨j, hj⟩ := List.getElem?_of_mem hu
 have hjl := (List.getElem?_eq_some_iff.1 hj).1
 have := h.len
 obtain ⟨c', G', k1, k2, _⟩ := h.get (i := j) (t := ts[j]'(by omega)) (List.getElem?_eq_getElem _)
 rw [hj] at k1; cases k1
 exact k2.cell1
def OpE (P : Program) (ops : Array Oper) (o : Oper) (σ : St) (Φ : St → Prop) : Prop := ∀ w0 a w, Rel w0 σ a w → ∀ (K : Act → World → Prop) (Q : Exit → Act → World → Prop), (∀ σ' a' w', Φ σ' → Rel w0 σ' a' w' → K a' w') →
 if Region.wanted o (yielded ops a.tmps) then o.wp P a w K Q else K (a.put o.dst undef) w
theorem OpE.eff {Φ : St → Prop} (hg : o.guard = none) (h : ∀ w0 a w, Rel w0 σ a w → ∃ v w' σ', (execOp a.eval o).run P w = .ok (.value v) w' ∧ Φ σ' ∧ Rel w0 σ' (a.put o.dst v) w') : OpE P ops o σ Φ := by
 intro w0 a w hr K Q hK
 simp only [Region.wanted, hg, if_true]
 obtain ⟨v, w', σ', h1, h2, h3⟩ := h w0 a w hr
 unfold Oper.wp
 rw [h1]
 exact hK _ _ _ h2 h3
theorem AWl.opE {w0 : Base} {Q : Exit → St → Prop} {l : List Oper} {Φ : St → Prop} (ho : OpE P ops o σ Φ) (h : ∀ σ', Φ σ' → AWl P w0 ops Q l σ') : AWl P w0 ops Q (o :: l) σ := fun a w hr =>
 wpList_step fun K hK => ho w0 a w hr K _ fun σ' a' w' hφ hr' => hK a' w' (h σ' hφ a' w' hr')
variable {w0 : Base} {Q : Exit → St → Prop} {n : Nat} {sl : List (Nat × (Bool × S))} {rs : List (Nat × R)} {l : List Oper}
end
end Go.Q
