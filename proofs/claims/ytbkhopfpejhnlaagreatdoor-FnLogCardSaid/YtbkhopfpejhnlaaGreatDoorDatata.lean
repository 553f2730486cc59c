import Derived.Test.YtbkhopfpejhnlaaGreatDoorAbs14ta
import Derived.Test.YtbkhopfpejhnlaaGreatDoorAbsDta
set_option linter.unusedVariables false
set_option linter.unusedSimpArgs false
namespace Go.Q
open Go.RowKit
section
variable {P : Program} {ops : Array Oper} {o : Oper} {σ : St} {q : Bool}
def MkPost (w : World) (x' : V0) (u v : Value) (F : List Nat) (e : Ending) (w' : World) : Prop :=
 e = .returned u ∧ ∃ F', V0r true w' x' v F' ∧ F'.Nodup ∧ (∀ b ∈ F', (w.heap.size ≤ b ∨ b ∈ F) ∧ Thaw w' b) ∧ Chg w w' F
def FnM (P : Program) (f : FuncId) (x : V0) (k : Value) (x' : V0) (u : Value) : Prop :=
 Callee P f ∧ u.oneCell' = true ∧ ∀ w v F, Good w F → V0r true w x v F → F.Nodup → (∀ b ∈ F, Thaw w b) → Calls P f (List.toArray [v, k]) w (MkPost w x' u v F)
section
variable {I : Ip} {w w' : World} {ids : List Nat} {NF : Nat → List Nat} {FF : List Nat}
end
theorem memN_false {ids : List Nat} {i : Nat} : memN ids i = false ↔ i ∉ ids := by
 rw [← memN_iff]; cases memN ids i <;> simp
theorem look_none_not {L : List (Nat × R)} {i : Nat} (h : look L i = none) : i ∉ L.map (·.1) := by
 induction L with
 | nil => simp
 | cons x L ih =>
  obtain ⟨j, y⟩ := x
  rw [look_cons] at h
  by_cases e : j = i
  · rw [if_pos e] at h; cases h
  · rw [if_neg e] at h
    have := ih h
    simp only [List.map_cons, List.mem_cons, not_or]
    exact ⟨fun h => e h.symm, this⟩
inductive MkL (σ : St) : List E → List T → List T → List (Nat × R) → Prop where
 | nil : MkL σ [] [] [] []
 | v {x : Value} {es : List E} {ts ts' : List T} {L : List (Nat × R)} (h : MkL σ es ts ts' L) : MkL σ (.t (.v x) :: es) (.v x :: ts) (.v x :: ts') L
 | rf {id k : Nat} {rows rows' : List (List T)} {es : List E} {ts ts' : List T} {L : List (Nat × R)} (hs : look σ.res id = some (.row k rows)) (hn : look L id = none) (h : MkL σ es ts ts' L) : MkL σ (.rf id :: es) (.sl k rows :: ts) (.sl k rows' :: ts') ((id, .row k rows') :: L)
theorem MkL.own {I : Ip} {w0 : Base} {w : World} {a : Act} (hr : RelI I w0 σ a w) {es : List E} {ts ts' : List T} {L : List (Nat × R)} (h : MkL σ es ts ts' L) : ∀ {cs : List Value}, VEs I w es cs →
 ∃ F, Cs true w ts cs F ∧ F.Nodup ∧ (∀ b ∈ F, Thaw w b) ∧ (∀ b, b ∈ F ↔ ∃ i ∈ L.map (·.1), b ∈ I.F i) ∧ (∀ i ∈ L.map (·.1), ∃ r0, look σ.res i = some r0) := by
 induction h with
 | nil => intro cs hv; exact ⟨[], by unfold Cs; exact ⟨hv, rfl⟩, List.nodup_nil, by simp, by simp, by simp⟩
 | v h ih =>
  rintro cs ⟨c, cr, rfl, h1, h2⟩
  obtain ⟨F, g1, g2, g3, g4, g5⟩ := ih h2
  obtain ⟨G, k1, _⟩ := h1
  simp only [C] at k1
  obtain ⟨k1, rfl, k2⟩ := k1
  exact ⟨F, by unfold Cs; exact ⟨c, cr, [], F, rfl, by unfold C; exact ⟨k1, rfl, k2⟩, g1, rfl⟩, g2, g3, g4, g5⟩
 | @rf id k rows rows' es ts ts' L hs hn h ih =>
  rintro cs ⟨c, cr, rfl, h1, h2⟩
  obtain ⟨F, g1, g2, g3, g4, g5⟩ := ih h2
  have hC : C true w (.sl k rows) (I.hd id) (I.F id) := hr.res id _ hs
  have hc : c = I.hd id := h1.1
  have own := hr.own id _ hs
  have hni := look_none_not hn
  refine ⟨I.F id ++ F, by unfold Cs; exact ⟨c, cr, _, _, rfl, hc ▸ hC, g1, rfl⟩, List.nodup_append.2 ⟨own.1, g2, fun x hx y hy e => ?_⟩, fun b hb => ?_, fun b => ?_, fun i hi => ?_⟩
  · subst e
    obtain ⟨j, hj, hb⟩ := (g4 x).1 hy
    exact hr.apart id j (fun e => hni (e ▸ hj)) x hx hb
  · rcases List.mem_append.1 hb with hb | hb
    · exact (own.2 b hb).2
    · exact g3 b hb
  · simp only [List.mem_append, g4, List.map_cons, List.mem_cons]
    constructor
    · rintro (hb | ⟨j, hj, hb⟩)
      · exact ⟨id, .inl rfl, hb⟩
      · exact ⟨j, .inr hj, hb⟩
    · rintro ⟨j, rfl | hj, hb⟩
      · exact .inl hb
      · exact .inr ⟨j, hj, hb⟩
  · rcases List.mem_cons.1 hi with rfl | hi
    · exact ⟨_, hs⟩
    · exact g5 i hi
theorem MkL.back {I : Ip} {w0 : Base} {w w' : World} {a : Act} (hr : RelI I w0 σ a w) {es : List E} {ts ts' : List T} {L : List (Nat × R)} (h : MkL σ es ts ts' L) : ∀ {cs : List Value} {F' : List Nat}, VEs I w es cs → Cs true w' ts' cs F' → F'.Nodup →
 ∃ NF : Nat → List Nat, (∀ i ∈ L.map (·.1), (NF i).Nodup ∧ ∀ b ∈ NF i, b ∈ F') ∧ (∀ i ∈ L.map (·.1), ∀ j ∈ L.map (·.1), i ≠ j → ∀ b ∈ NF i, b ∉ NF j) ∧ ∀ i r, look L i = some r → ∃ k rows, r = .row k rows ∧ C true w' (.sl k rows) (I.hd i) (NF i) := by
 induction h with
 | nil => intro cs F' _ _ _; exact ⟨fun _ => [], by simp, by simp, fun i r h => by cases h⟩
 | v h ih =>
  rintro cs F' ⟨c, cr, rfl, h1, h2⟩ hC hN
  simp only [Cs] at hC
  obtain ⟨c', cr', G1, G2, e, k1, k2, rfl⟩ := hC
  cases e
  simp only [C] at k1
  obtain ⟨_, rfl, _⟩ := k1
  exact ih h2 k2 hN
 | @rf id k rows rows' es ts ts' L hs hn h ih =>
  rintro cs F' ⟨c, cr, rfl, h1, h2⟩ hC hN
  rw [Cs] at hC
  obtain ⟨c', cr', G1, G2, e, k1, k2, rfl⟩ := hC
  cases e
  obtain ⟨n1, n2, n3⟩ := List.nodup_append.1 hN
  obtain ⟨NF, g1, g2, g3⟩ := ih h2 k2 n2
  have hc : c = I.hd id := h1.1
  have hni := look_none_not hn
  have hself : ∀ i ∈ L.map (·.1), i ≠ id := fun i hi e => hni (e ▸ hi)
  refine ⟨fun i => if i = id then G1 else NF i, fun i hi => ?_, fun i hi j hj hne b hb hb' => ?_, fun i r hl => ?_⟩
  · rcases List.mem_cons.1 hi with hi1 | hi1
    · have hi1 : i = id := hi1
      simp only [if_pos hi1]; exact ⟨n1, fun b hb => by simp [hb]⟩
    · simp only [if_neg (hself i hi1)]
      exact ⟨(g1 i hi1).1, fun b hb => by simp [(g1 i hi1).2 b hb]⟩
  · rcases List.mem_cons.1 hi with hi1 | hi1
    · have hi1 : i = id := hi1
      rcases List.mem_cons.1 hj with hj1 | hj1
      · have hj1 : j = id := hj1
        exact hne (hi1.trans hj1.symm)
      · simp only [if_pos hi1] at hb
        simp only [if_neg (hself j hj1)] at hb'
        exact n3 b hb b ((g1 j hj1).2 b hb') rfl
    · simp only [if_neg (hself i hi1)] at hb
      rcases List.mem_cons.1 hj with hj1 | hj1
      · have hj1 : j = id := hj1
        simp only [if_pos hj1] at hb'
        exact n3 b hb' b ((g1 i hi1).2 b hb) rfl
      · simp only [if_neg (hself j hj1)] at hb'
        exact g2 i hi1 j hj1 hne b hb hb'
  · rw [look_cons] at hl
    by_cases e : id = i
    · subst e
      rw [if_pos rfl] at hl
      cases hl
      exact ⟨k, rows', rfl, by simp only [if_true]; rw [← hc]; exact k1⟩
    · rw [if_neg e] at hl
      obtain ⟨k', rows1, rfl, h4⟩ := g3 i r hl
      exact ⟨k', rows1, rfl, by simp only [if_neg (fun h => e h.symm : ¬ i = id)]; exact h4⟩
def V0of : A → List T → V0
 | .one _, ts => .one (ts.headD (.v undef))
 | .agg _, ts => .agg ts
theorem V0of_r {I : Ip} {w : World} {A0 : A} {v : Value} (hv : VA I w A0 v) : ∃ cs, VEs I w (cellsA A0) cs ∧ ∀ {oo : Bool} {w' : World} {ts : List T} {F : List Nat}, ts.length = (cellsA A0).length → (V0r oo w' (V0of A0 ts) v F ↔ Cs oo w' ts cs F) := by
 cases A0 with
 | one e =>
  refine ⟨[v], ⟨v, [], rfl, hv, rfl⟩, fun {oo w' ts F} hl => ?_⟩
  match ts, hl with
  | [t], _ =>
   show C oo w' t v F ↔ _
   constructor
   · intro h; unfold Cs; exact ⟨v, [], F, [], rfl, h, by unfold Cs; exact ⟨rfl, rfl⟩, by simp⟩
   · intro h
     rw [Cs] at h
     obtain ⟨c, cr, G1, G2, e, h1, h2, rfl⟩ := h
     cases e
     rw [Cs] at h2
     obtain ⟨_, rfl⟩ := h2
     simpa using h1
 | agg l =>
  obtain ⟨cs, rfl, h2⟩ := hv
  refine ⟨cs, h2, fun {oo w' ts F} hl => ?_⟩
  show (∃ cs', (Value.agg (List.toArray cs)) = .agg (List.toArray cs') ∧ Cs oo w' ts cs' F) ↔ _
  constructor
  · rintro ⟨cs', e, h⟩
    have : cs = cs' := by simpa using e
    subst this; exact h
  · intro h; exact ⟨cs, rfl, h⟩
theorem MkL.len {es : List E} {ts ts' : List T} {L : List (Nat × R)} (h : MkL σ es ts ts' L) : ts.length = es.length ∧ ts'.length = es.length := by
 induction h with
 | nil => simp
 | v _ ih => simp [ih.1, ih.2]
 | rf _ _ _ ih => simp [ih.1, ih.2]
def hdsOf (hd : Nat → Value) (rs : List (Nat × R)) : List (Nat × R) := rs.map fun x => (x.1 - 500, .hdr (some x.1) (hd x.1))
theorem look_append {α : Type} : ∀ (l m : List (Nat × α)) (i : Nat), look (l ++ m) i = match look l i with | some x => some x | none => look m i
 | [], _, _ => rfl
 | (j, y) :: l, m, i => by
  rw [List.cons_append, look_cons, look_cons]
  by_cases e : j = i
  · rw [if_pos e, if_pos e]
  · rw [if_neg e, if_neg e]; exact look_append l m i
theorem RelI.heads {I : Ip} {w0 : Base} {w : World} {a : Act} (h : RelI I w0 σ a w) {hds : List (Nat × R)} (hh : ∀ i r, look hds i = some r → I.F i = [] ∧ ∃ j x, r = .hdr j x ∧ ∀ m, j = some m → I.hd m = x) : RelI I w0 ⟨σ.n, σ.slots, σ.res ++ hds⟩ a w := by
 have key : ∀ i r, look (σ.res ++ hds) i = some r → look σ.res i = some r ∨ look hds i = some r := fun i r hi => by
  rw [look_append] at hi
  split at hi
  · rename_i x hx; rw [hx]; exact .inl hi
  · exact .inr hi
 refine ⟨h.ext, h.defers, h.size, h.slots, fun i r hi => ?_, h.old, h.lt, fun i r hi => ?_, h.apart⟩
 · rcases key i r hi with hi | hi
   · exact h.res i r hi
   · obtain ⟨g1, j, x, rfl, g2⟩ := hh i r hi; exact ⟨g1, g2⟩
 · rcases key i r hi with hi | hi
   · exact h.own i r hi
   · rw [(hh i r hi).1]; simp
inductive Back (hd : Nat → Value) (σ : St) : List Nat → List E → List T → Prop where
 | nil : Back hd σ [] [] []
 | v {x : Value} {ids : List Nat} {es : List E} {ts : List T} (h : Back hd σ ids es ts) : Back hd σ ids (.t (.v x) :: es) (.v x :: ts)
 | rf {id k : Nat} {rows : List (List T)} {ids : List Nat} {es : List E} {ts : List T} (hs : look σ.res id = some (.row k rows)) (hh : look σ.res (id - 500) = some (.hdr (some id) (hd id))) (hn : memN ids id = false) (h : Back hd σ ids es ts) : Back hd σ (id :: ids) (.rf id :: es) (.sl k rows :: ts)
theorem Back.ok {hd : Nat → Value} {I : Ip} {w0 : Base} {w : World} {a : Act} (hr : RelI I w0 σ a w) {ids : List Nat} {es : List E} {ts : List T} (h : Back hd σ ids es ts) : ∀ {I0 : Ip} {w1 : World} {cs : List Value}, I0.hd = hd → VEs I0 w1 es cs →
 ∃ F, Cs true w ts cs F ∧ F.Nodup ∧ ∀ b ∈ F, ∃ i ∈ ids, ∃ r, look σ.res i = some r ∧ b ∈ I.F i := by
 induction h with
 | nil => intro I0 w1 cs _ hv; exact ⟨[], by unfold Cs; exact ⟨hv, rfl⟩, List.nodup_nil, by simp⟩
 | v h ih =>
  rintro I0 w1 cs e ⟨c, cr, rfl, h1, h2⟩
  obtain ⟨F, g1, g2, g3⟩ := ih e h2
  obtain ⟨G, k1, _⟩ := h1
  simp only [C] at k1
  obtain ⟨k1, rfl, k2⟩ := k1
  exact ⟨F, by unfold Cs; exact ⟨c, cr, [], F, rfl, by unfold C; exact ⟨k1, rfl, k2⟩, g1, rfl⟩, g2, g3⟩
 | @rf id k rows ids es ts hs hh hn h ih =>
  rintro I0 w1 cs e ⟨c, cr, rfl, h1, h2⟩
  obtain ⟨F, g1, g2, g3⟩ := ih e h2
  have hC : C true w (.sl k rows) (I.hd id) (I.F id) := hr.res id _ hs
  have hhd : I.hd id = hd id := (hr.res _ _ hh).2 id rfl
  have hc : c = I.hd id := by rw [hhd, ← e]; exact h1.1
  refine ⟨I.F id ++ F, by unfold Cs; exact ⟨c, cr, _, _, rfl, hc ▸ hC, g1, rfl⟩, List.nodup_append.2 ⟨(hr.own id _ hs).1, g2, fun x hx y hy e => ?_⟩, fun b hb => ?_⟩
  · subst e
    obtain ⟨j, hj, _, _, hb⟩ := g3 x hy
    exact hr.apart id j (fun e => memN_false.1 hn (e ▸ hj)) x hx hb
  · rcases List.mem_append.1 hb with hb | hb
    · exact ⟨id, by simp, _, hs, hb⟩
    · obtain ⟨j, hj, r, h3, h4⟩ := g3 b hb; exact ⟨j, by simp [hj], r, h3, h4⟩
def RetM (P : Program) (fn : Func) (hd : Nat → Value) (y : A) (ts : List T) (u : Value) : Exit → St → Prop
 | .normal, σ => Res P fn false (.a (.one (.v u))) σ ∧ ∃ ids, Back hd σ ids (cellsA y) ts
 | .ret, σ => Res P fn false (.a (.one (.v u))) σ ∧ ∃ ids, Back hd σ ids (cellsA y) ts
 | _, _ => False
theorem FnM.walk {n : Nat} {f : FuncId} {fn : Func} {c : Code} {x x' : V0} {k u : Value} {y : A} {ts : List T} {rs : List (Nat × R)} {R0 : (Nat → Value) → List (Nat × R)} (hf : P.funcs[f]? = some fn) (hb : fn.body = some c) (hname : (fn.name == "runtime.NumGoroutine") = false) (hnt : fn.ntmps = n) (hn : Nat.ble 2 n = true)
 (hk : k.oneCell' = true) (hu : u.oneCell' = true) (hy : outV0 1000 x = some (y, rs)) (hR : (fun hd => addsR rs [] ++ hdsOf hd rs) = R0) (hx' : V0of y ts = x') (hl : ts.length = (cellsA y).length) (hids : rs.all (fun x => Nat.ble 1000 x.1 && Nat.ble x.1 1400) = true)
 (h : LenV [x] → ∀ w0 hd, AW P w0 c (RetM P fn hd y ts u) ⟨n, [(0, (true, .a y)), (1, (true, .a (.one (.t (.v k)))))], R0 hd⟩) : FnM P f x k x' u := by
 subst hnt hR hx'
 refine ⟨⟨fn, hf, hname, by rw [hb]; rfl⟩, hu, fun w v F hG hv hnd hth => ?_⟩
 have hlen : LenV [x] := V0s.lenV (w := w) (vs := [v]) (F := F) ⟨v, [], F, [], rfl, hv.read, ⟨rfl, rfl⟩, by simp⟩
 have hn' : 2 ≤ fn.ntmps := Nat.le_of_ble_eq_true hn
 have hlt : ∀ b ∈ F, b < w.heap.size := V0r.lt hv
 let a0 : Act := ⟨(List.toArray [v, k]) ++ Array.replicate (fn.ntmps - (List.toArray [v, k]).size) undef, []⟩
 have hsz : a0.tmps.size = fn.ntmps := by simp [a0]; omega
 have h1v : a0.tmps.getD 1 undef = k := by simp [a0, Array.getD_eq_getD_getElem?, Array.getElem?_append]
 have h0v : a0.tmps.getD 0 undef = v := by simp [a0, Array.getD_eq_getD_getElem?, Array.getElem?_append]
 let I0 : Ip := ⟨fun b => b < w.heap.size ∧ b ∉ F, fun _ => [], fun _ => undef, fun _ => 0⟩
 have hr0 : RelI I0 ⟨w, F, hG⟩ ⟨fn.ntmps, [(1, (true, .a (.one (.t (.v k)))))], []⟩ a0 w := by
  refine ⟨Chg.refl w F, rfl, hsz, fun i z hi => ?_, fun id r hi => (by cases hi), fun b hb => hb.1, fun id b hb => (by cases hb), fun id r hi => (by cases hi), fun i j _ b hb => (by cases hb)⟩
  rw [look_cons] at hi
  by_cases e : 1 = i
  · subst e
    rw [if_pos rfl] at hi
    cases hi
    rw [h1v]
    exact ⟨[], by unfold C; exact ⟨rfl, rfl, hk⟩, by simp⟩
  · rw [if_neg e] at hi; cases hi
 have hfree : ∀ b ∈ F, Free I0 ⟨w, F, hG⟩ w b := fun b hb => ⟨.inr hb, hlt b hb, hth b hb, fun hz => hz.2 hb, fun i hi => by cases hi⟩
 obtain ⟨I1, r1, r2, r3, _⟩ := outV0_ok hy (by
  rw [List.all_eq_true] at hids ⊢
  intro z hz
  have h1 := hids z hz
  rfl) hr0 hv hnd hfree
 rw [adds_eq] at r1
 have r1' := r1.heads (hds := hdsOf I1.hd rs) fun i r hi => by
  have hm := look_mem hi
  obtain ⟨z, hz, e⟩ := List.mem_map.1 hm
  obtain ⟨rfl, rfl⟩ := Prod.mk.inj e
  have h1 := List.all_eq_true.1 hids z hz
  simp only [Bool.and_eq_true] at h1
  have h2 := Nat.le_of_ble_eq_true h1.1
  have h3 := Nat.le_of_ble_eq_true h1.2
  exact ⟨(r3.2 _ (by omega)).1, _, _, rfl, fun m hm => by cases hm; rfl⟩
 have r2' : RelI I1 ⟨w, F, hG⟩ ⟨fn.ntmps, [(0, (true, .a y)), (1, (true, .a (.one (.t (.v k)))))], addsR rs [] ++ hdsOf I1.hd rs⟩ a0 w := by
  refine ⟨r1'.ext, r1'.defers, r1'.size, fun i z hi => ?_, r1'.res, r1'.old, r1'.lt, r1'.own, r1'.apart⟩
  rw [look_cons] at hi
  by_cases e : 0 = i
  · subst e
    rw [if_pos rfl] at hi
    cases hi
    rw [h0v]; exact r2
  · rw [if_neg e] at hi; exact r1'.slots i z hi
 refine calls_of_wp hf hb (Code.wp_mono ?_ (h hlen ⟨w, F, hG⟩ I1.hd _ _ ⟨_, r2'⟩))
 rintro e a' w' ⟨σ, h1, I, hI⟩
 have key : (Res P fn false (.a (.one (.v u))) σ ∧ ∃ ids, Back I1.hd σ ids (cellsA y) ts) → a'.defers = [] ∧ ∃ v', (results fn a'.tmps).run P w' = .ok v' w' ∧ MkPost w (V0of y ts) u v F (.returned v') w' := fun ⟨h1, ids, h2⟩ => by
  obtain ⟨v', F', g1, g2, _⟩ := h1 I ⟨w, F, hG⟩ a' w' hI
  have hv' : v' = u := by unfold Vr V0r C at g2; exact g2.1
  subst hv'
  obtain ⟨cs, hes, hcs⟩ := V0of_r r2
  obtain ⟨F2, k1, k2, k3⟩ := h2.ok hI rfl hes
  refine ⟨hI.defers, _, g1, rfl, F2, (hcs hl).2 k1, k2, fun b hb => ?_, hI.ext⟩
  obtain ⟨i, _, r, h3, h4⟩ := k3 b hb
  exact (hI.own i r h3).2 b h4
 cases e with
 | normal => exact key h1
 | ret => exact key h1
 | exit id => exact h1.elim
 | goto l => exact h1.elim
 | panic c => exact h1.elim
 | outgrown => exact h1.elim
variable {w0 : Base} {Q : Exit → St → Prop} {n : Nat} {sl : List (Nat × (Bool × S))} {rs : List (Nat × R)} {l : List Oper}
theorem RetM.mk {fn : Func} {hd : Nat → Value} {y : A} {ts : List T} {u : Value} {ids : List Nat} (h1 : Res P fn false (.a (.one (.v u))) σ) (h2 : Back hd σ ids (cellsA y) ts) : Res P fn false (.a (.one (.v u))) σ ∧ ∃ ids, Back hd σ ids (cellsA y) ts := ⟨h1, ids, h2⟩
end
theorem take_at {α : Type} {l : List α} {i : Nat} {x : α} (h : l[i]? = some x) : l.take (i + 1) = l.take i ++ [x] := by
 obtain ⟨hi, rfl⟩ := List.getElem?_eq_some_iff.1 h
 exact List.take_succ_eq_append_getElem hi
theorem drop_at {α : Type} {l : List α} {i : Nat} {x : α} (h : l[i]? = some x) : l.drop i = x :: l.drop (i + 1) := by
 obtain ⟨hi, rfl⟩ := List.getElem?_eq_some_iff.1 h
 exact List.drop_eq_getElem_cons hi
end Go.Q
namespace Go.D
open Go.Q
def cInt (x : Int) : List T := [.v (.int .i64 x)]
def cBool (x : Bool) : List T := [.v (.bool x)]
def cIntS (x : List Int) : List T := [.sl 1 (x.map cInt)]
structure TPair where
 From : Int
 To : Int
 deriving DecidableEq
def cPair (x : TPair) : List T := [.v (.int .i64 x.From), .v (.int .i64 x.To)]
theorem TPair.ext_iff' {x y : TPair} : x = y ↔ x.From = y.From ∧ x.To = y.To := by
 cases x; cases y; simp
structure TToken where
 Kind : Int
 Letter : Int
 Low : Int
 High : Int
 deriving DecidableEq
def cToken (x : TToken) : List T := [.v (.int .i64 x.Kind), .v (.int .i64 x.Letter), .v (.int .i64 x.Low), .v (.int .i64 x.High)]
theorem TToken.ext_iff' {x y : TToken} : x = y ↔ x.Kind = y.Kind ∧ x.Letter = y.Letter ∧ x.Low = y.Low ∧ x.High = y.High := by
 cases x; cases y; simp
structure TExpr where
 Tokens : (List TToken)
 deriving DecidableEq
def cExpr (x : TExpr) : List T := [.sl 4 (x.Tokens.map cToken)]
theorem TExpr.ext_iff' {x y : TExpr} : x = y ↔ x.Tokens = y.Tokens := by
 cases x; cases y; simp
structure TEdge where
 ID : Int
 From : Int
 To : Int
 Label : Int
 deriving DecidableEq
def cEdge (x : TEdge) : List T := [.v (.int .i64 x.ID), .v (.int .i64 x.From), .v (.int .i64 x.To), .v (.int .i64 x.Label)]
theorem TEdge.ext_iff' {x y : TEdge} : x = y ↔ x.ID = y.ID ∧ x.From = y.From ∧ x.To = y.To ∧ x.Label = y.Label := by
 cases x; cases y; simp
structure TGraph where
 Values : (List Int)
 Edges : (List TEdge)
 deriving DecidableEq
def cGraph (x : TGraph) : List T := [.sl 1 (x.Values.map cInt), .sl 4 (x.Edges.map cEdge)]
theorem TGraph.ext_iff' {x y : TGraph} : x = y ↔ x.Values = y.Values ∧ x.Edges = y.Edges := by
 cases x; cases y; simp
structure TStep where
 Edge : Int
 Inverse : Bool
 deriving DecidableEq
def cStep (x : TStep) : List T := [.v (.int .i64 x.Edge), .v (.bool x.Inverse)]
theorem TStep.ext_iff' {x y : TStep} : x = y ↔ x.Edge = y.Edge ∧ x.Inverse = y.Inverse := by
 cases x; cases y; simp
structure TWalk where
 Start : Int
 Steps : (List TStep)
 deriving DecidableEq
def cWalk (x : TWalk) : List T := [.v (.int .i64 x.Start), .sl 2 (x.Steps.map cStep)]
theorem TWalk.ext_iff' {x y : TWalk} : x = y ↔ x.Start = y.Start ∧ x.Steps = y.Steps := by
 cases x; cases y; simp
structure TChange where
 Insert : Bool
 Edge : TEdge
 deriving DecidableEq
def cChange (x : TChange) : List T := [.v (.bool x.Insert), .v (.int .i64 x.Edge.ID), .v (.int .i64 x.Edge.From), .v (.int .i64 x.Edge.To), .v (.int .i64 x.Edge.Label)]
theorem TChange.ext_iff' {x y : TChange} : x = y ↔ x.Insert = y.Insert ∧ x.Edge = y.Edge := by
 cases x; cases y; simp
structure TBatch where
 Changes : (List TChange)
 deriving DecidableEq
def cBatch (x : TBatch) : List T := [.sl 5 (x.Changes.map cChange)]
theorem TBatch.ext_iff' {x y : TBatch} : x = y ↔ x.Changes = y.Changes := by
 cases x; cases y; simp
structure THistory where
 First : Int
 Graphs : (List TGraph)
 deriving DecidableEq
def cHistory (x : THistory) : List T := [.v (.int .i64 x.First), .sl 2 (x.Graphs.map cGraph)]
theorem THistory.ext_iff' {x y : THistory} : x = y ↔ x.First = y.First ∧ x.Graphs = y.Graphs := by
 cases x; cases y; simp
structure TPositions where
 Letters : (List Int)
 First : Int
 Last : Int
 Follow : (List Int)
 Nullable : Bool
 deriving DecidableEq
def cPositions (x : TPositions) : List T := [.sl 1 (x.Letters.map cInt), .v (.int .i64 x.First), .v (.int .i64 x.Last), .sl 1 (x.Follow.map cInt), .v (.bool x.Nullable)]
theorem TPositions.ext_iff' {x y : TPositions} : x = y ↔ x.Letters = y.Letters ∧ x.First = y.First ∧ x.Last = y.Last ∧ x.Follow = y.Follow ∧ x.Nullable = y.Nullable := by
 cases x; cases y; simp
structure TAutomaton where
 Start : Int
 Accept : (List Bool)
 Next : (List (List Int))
 deriving DecidableEq
def cAutomaton (x : TAutomaton) : List T := [.v (.int .i64 x.Start), .sl 1 (x.Accept.map cBool), .sl 1 (x.Next.map cIntS)]
theorem TAutomaton.ext_iff' {x y : TAutomaton} : x = y ↔ x.Start = y.Start ∧ x.Accept = y.Accept ∧ x.Next = y.Next := by
 cases x; cases y; simp
structure TProductStep where
 Step : TStep
 Node : Int
 State : Int
 deriving DecidableEq
def cProductStep (x : TProductStep) : List T := [.v (.int .i64 x.Step.Edge), .v (.bool x.Step.Inverse), .v (.int .i64 x.Node), .v (.int .i64 x.State)]
theorem TProductStep.ext_iff' {x y : TProductStep} : x = y ↔ x.Step = y.Step ∧ x.Node = y.Node ∧ x.State = y.State := by
 cases x; cases y; simp
structure TPathAtom where
 From : Int
 To : Int
 Expr : TExpr
 deriving DecidableEq
def cPathAtom (x : TPathAtom) : List T := [.v (.int .i64 x.From), .v (.int .i64 x.To), .sl 4 (x.Expr.Tokens.map cToken)]
theorem TPathAtom.ext_iff' {x y : TPathAtom} : x = y ↔ x.From = y.From ∧ x.To = y.To ∧ x.Expr = y.Expr := by
 cases x; cases y; simp
structure TConjunction where
 VariableCount : Int
 Atoms : (List TPathAtom)
 deriving DecidableEq
def cConjunction (x : TConjunction) : List T := [.v (.int .i64 x.VariableCount), .sl 3 (x.Atoms.map cPathAtom)]
theorem TConjunction.ext_iff' {x y : TConjunction} : x = y ↔ x.VariableCount = y.VariableCount ∧ x.Atoms = y.Atoms := by
 cases x; cases y; simp
structure TView where
 Automaton : TAutomaton
 Source : Int
 Ranks : (List Int)
 Supports : (List Int)
 deriving DecidableEq
def cView (x : TView) : List T := [.v (.int .i64 x.Automaton.Start), .sl 1 (x.Automaton.Accept.map cBool), .sl 1 (x.Automaton.Next.map cIntS), .v (.int .i64 x.Source), .sl 1 (x.Ranks.map cInt), .sl 1 (x.Supports.map cInt)]
theorem TView.ext_iff' {x y : TView} : x = y ↔ x.Automaton = y.Automaton ∧ x.Source = y.Source ∧ x.Ranks = y.Ranks ∧ x.Supports = y.Supports := by
 cases x; cases y; simp
structure TDelta where
 Added : (List TPair)
 Removed : (List TPair)
 deriving DecidableEq
def cDelta (x : TDelta) : List T := [.sl 2 (x.Added.map cPair), .sl 2 (x.Removed.map cPair)]
theorem TDelta.ext_iff' {x y : TDelta} : x = y ↔ x.Added = y.Added ∧ x.Removed = y.Removed := by
 cases x; cases y; simp
structure TRegistered where
 ID : Int
 Expr : TExpr
 Shared : Int
 deriving DecidableEq
def cRegistered (x : TRegistered) : List T := [.v (.int .i64 x.ID), .sl 4 (x.Expr.Tokens.map cToken), .v (.int .i64 x.Shared)]
theorem TRegistered.ext_iff' {x y : TRegistered} : x = y ↔ x.ID = y.ID ∧ x.Expr = y.Expr ∧ x.Shared = y.Shared := by
 cases x; cases y; simp
structure TRegistry where
 Automata : (List TAutomaton)
 Queries : (List TRegistered)
 deriving DecidableEq
def cRegistry (x : TRegistry) : List T := [.sl 3 (x.Automata.map cAutomaton), .sl 3 (x.Queries.map cRegistered)]
theorem TRegistry.ext_iff' {x y : TRegistry} : x = y ↔ x.Automata = y.Automata ∧ x.Queries = y.Queries := by
 cases x; cases y; simp
end Go.D
namespace Go.Q
def inB (x a b : Int) : Bool := decide (a ≤ x) && decide (x ≤ b)
theorem eq_of_getElem? {α : Type} {l r : List α} (hl : l.length = r.length) (h : ∀ i : Nat, i < l.length → l[i]? = r[i]?) : l = r := List.ext_getElem? fun i => by
 rcases Nat.lt_or_ge i l.length with hi | hi
 · exact h i hi
 · rw [List.getElem?_eq_none hi, List.getElem?_eq_none (by omega)]
theorem each_succ {α : Type} {p : α → Bool} {l : List α} {k : Nat} {x : α} (h : ∀ j y, j < k → l[j]? = some y → p y = true) (hx : l[k]? = some x) (hp : p x = true) : ∀ j y, j < k + 1 → l[j]? = some y → p y = true := fun j y hj hy => by
 rcases Nat.lt_or_eq_of_le (Nat.le_of_lt_succ hj) with h1 | rfl
 · exact h j y h1 hy
 · rw [hx] at hy; cases hy; exact hp
theorem each_all {α : Type} {p : α → Bool} {l : List α} {k : Nat} (h : ∀ j y, j < k → l[j]? = some y → p y = true) (hk : l.length ≤ k) : l.all p = true := by
 rw [List.all_eq_true]
 intro x hx
 obtain ⟨j, hj, rfl⟩ := List.getElem_of_mem hx
 exact h j _ (by omega) (List.getElem?_eq_getElem hj)
theorem not_all {α : Type} {p : α → Bool} {l : List α} {k : Nat} {x : α} (hx : l[k]? = some x) (hp : p x = false) : l.all p = false := by
 rw [List.all_eq_false]
 exact ⟨x, List.mem_of_getElem? hx, by rw [hp]; simp⟩
def findI {α : Type} (p : α → Bool) : List α → Nat → Int
 | [], _ => -1
 | x :: r, k => if p x then (k : Int) else findI p r (k + 1)
theorem findI_at {α : Type} {p : α → Bool} : ∀ {l : List α} {m k : Nat} {x : α}, (∀ j y, j < k → l[j]? = some y → (!p y) = true) → l[k]? = some x → p x = true → findI p l m = ((m + k : Nat) : Int)
 | [], _, _, _, _, h, _ => by simp at h
 | y :: l, m, 0, x, _, h, hp => by simp at h; subst h; simp [findI, hp]
 | y :: l, m, k + 1, x, hn, h, hp => by
  have h0 := hn 0 y (by omega) rfl
  have h0' : p y = false := by simpa using h0
  rw [findI, h0', if_neg (by simp), findI_at (k := k) (fun j z hj hz => hn (j + 1) z (by omega) (by simpa using hz)) (by simpa using h) hp]
  omega
theorem findI_none {α : Type} {p : α → Bool} : ∀ {l : List α} {m k : Nat}, (∀ j y, j < k → l[j]? = some y → (!p y) = true) → l.length ≤ k → findI p l m = -1
 | [], _, _, _, _ => rfl
 | y :: l, m, 0, _, h => by simp at h
 | y :: l, m, k + 1, hn, h => by
  have h0 := hn 0 y (by omega) rfl
  have h0' : p y = false := by simpa using h0
  rw [findI, h0', if_neg (by simp)]
  exact findI_none (k := k) (fun j z hj hz => hn (j + 1) z (by omega) (by simpa using hz)) (by simpa using h)
theorem findI_lt {α : Type} {p : α → Bool} : ∀ {l : List α} {m : Nat}, findI p l m = -1 ∨ ∃ k x, l[k]? = some x ∧ p x = true ∧ findI p l m = ((m + k : Nat) : Int)
 | [], _ => .inl rfl
 | y :: l, m => by
  rw [findI]
  split
  · exact .inr ⟨0, y, rfl, by assumption, rfl⟩
  · rcases findI_lt (p := p) (l := l) (m := m + 1) with h | ⟨k, x, h1, h2, h3⟩
    · exact .inl h
    · exact .inr ⟨k + 1, x, by simpa using h1, h2, by rw [h3]; omega⟩
theorem getD_at {α : Type} {d : α} {l : List α} {k : Nat} (h : k < l.length) : l[k]? = some (l[k]?.getD d) := by rw [List.getElem?_eq_getElem h]; rfl
section
open Go.RowKit
variable {P : Program} {ops : Array Oper} {o : Oper} {σ : St} {q : Bool}
theorem R_lenm {α : Type} {f : α → List T} {l : List α} {x : Operand} {t : TypeId} {A0 : A} {k : Nat} (ho : o.op = .call { callee := .builtin .len, args := #[x], argTypes := #[t] }) (hg : Grd ops o σ q) (hd : o.dst.all (fun d => Nat.blt d σ.n) = true)
 (hx : Get σ q x A0) (hs : Sq σ A0 k (l.map f)) {e : TypeId} (hu : P.underlying t = some (.slice e)) : Op1 P ops o σ (σ.put o.dst (q, .a (.one (.t (.v (.int .i64 l.length)))))) := by
 have := R_len ho hg hd hx hs hu
 rwa [List.length_map] at this
end
end Go.Q
