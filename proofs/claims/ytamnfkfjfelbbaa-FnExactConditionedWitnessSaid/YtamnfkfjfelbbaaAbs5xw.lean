import Derived.Test.YtamnfkfjfelbbaaAbs4xw
set_option linter.unusedVariables false
set_option linter.unusedSimpArgs false
namespace Go.Q
open Go.RowKit
theorem Ext.chg {w w' : World} (h : Ext w w') (G : List Nat) : Chg w w' G := ⟨h.1, h.2, h.3, h.size, fun _ hk _ => h.block hk⟩
def delR : List (Nat × R) → Nat → List (Nat × R)
 | [], _ => []
 | (i, x) :: l, id => bif Nat.beq i id then delR l id else (i, x) :: delR l id
theorem look_delR : ∀ (l : List (Nat × R)) (id i : Nat) (x : R), look (delR l id) i = some x → i ≠ id ∧ look l i = some x
 | [], _, _, _, h => by cases h
 | (j, y) :: l, id, i, x, h => by
  rw [delR] at h
  by_cases e : j = id
  · subst e
    simp only [Nat.beq_refl, cond_true] at h
    obtain ⟨h1, h2⟩ := look_delR l j i x h
    exact ⟨h1, by rw [look_cons, if_neg (fun e => h1 e.symm)]; exact h2⟩
  · have eb : Nat.beq j id = false := by
     cases hb : Nat.beq j id with
     | false => rfl
     | true => exact absurd (Nat.eq_of_beq_eq_true hb) e
    simp only [eb, cond_false] at h
    rw [look_cons] at h
    by_cases e' : j = i
    · rw [if_pos e'] at h; cases h
      exact ⟨fun h => e (e'.trans h), by rw [look_cons, if_pos e']⟩
    · rw [if_neg e'] at h
      obtain ⟨h1, h2⟩ := look_delR l id i x h
      exact ⟨h1, by rw [look_cons, if_neg e']; exact h2⟩
def St.kill (σ : St) (id : Nat) : St := { σ.pur id with res := delR (σ.pur id).res id }
theorem RelI.kill {I : Ip} {w0 : Base} {w : World} {σ : St} {a : Act} (h : RelI I w0 σ a w) {id : Nat} {r0 : R} (h0 : look σ.res id = some r0) :
 RelI (I.set id [] (I.hd id) (I.B id)) w0 (σ.kill id) a w ∧ (∀ b ∈ I.F id, Free (I.set id [] (I.hd id) (I.B id)) w0 w b) ∧ ∀ b, Free I w0 w b → Free (I.set id [] (I.hd id) (I.B id)) w0 w b := by
 have hZ : ∀ b, I.Z b → b ∉ I.F id := fun b hz hb => (h.lt id b hb).2 hz
 have hv : ∀ i, i ≠ id → ∀ b ∈ I.F i, b ∉ I.F id := fun i hi => h.apart i id hi
 have hc := Chg.refl w (I.F id)
 have Fid : (I.set id [] (I.hd id) (I.B id)).F id = [] := by simp [Ip.set]
 have Foth : ∀ i, i ≠ id → (I.set id [] (I.hd id) (I.B id)).F i = I.F i := fun i hi => by simp [Ip.set, hi]
 have key : ∀ i r', look (σ.kill id).res i = some r' → i ≠ id ∧ ∃ y, look σ.res i = some y ∧ r' = y.pur id := by
  intro i r' hi
  obtain ⟨h1, h2⟩ := look_delR _ _ _ _ hi
  refine ⟨h1, ?_⟩
  rw [St.pur, look_map] at h2
  obtain ⟨y, hy, e⟩ := Option.map_eq_some_iff.1 h2
  exact ⟨y, hy, e.symm⟩
 refine ⟨⟨h.ext, h.defers, h.size, fun i x hi => ?_, fun i r' hi => ?_, h.old, fun i b hb => ?_, fun i r' hi => ?_, fun i j hne b hb hb' => ?_⟩, fun b hb => ?_, fun b hb => ?_⟩
 · have hi' : look (σ.slots.map fun x => (x.1, (x.2.1, x.2.2.pur id))) i = some x := hi
   rw [look_map (fun x : Bool × S => (x.1, x.2.pur id))] at hi'
   obtain ⟨y, hy, rfl⟩ := Option.map_eq_some_iff.1 hi'
   exact (h.slots i y hy).pur hc hZ hv
 · obtain ⟨e, y, hy, rfl⟩ := key i r' hi
   have := h.res i y hy
   cases y with
   | row k rows =>
    have this : C true w (.sl k rows) (I.hd i) (I.F i) := this
    show C true w (.sl k rows) _ _
    simpa only [Ip.set, if_neg e] using this
   | box cs =>
    obtain ⟨h1, vs, t, h2, h3⟩ := this
    exact ⟨by simpa only [Ip.set, if_neg e] using h1, vs, t, by simpa only [Ip.set, if_neg e] using h2, h3.pur hc hZ hv⟩
   | kept K => exact ⟨by simp only [Ip.set, if_neg e]; exact this.1, this.2⟩
   | opq => trivial
   | cur g =>
    have this : I.F i = [g.1] ∧ I.B i = g.1 ∧ CuB I.Z w g := this
    exact ⟨by simpa only [Ip.set, if_neg e] using this.1, by simpa only [Ip.set, if_neg e] using this.2.1, this.2.2⟩
   | mp b f =>
    have this : I.F i = [b] ∧ MapB w b f := this
    exact ⟨by simpa only [Ip.set, if_neg e] using this.1, this.2⟩
   | hdr j x =>
    refine ⟨by simp only [Ip.set, if_neg e]; exact this.1, fun k hk => ?_⟩
    cases j with
    | none => cases hk
    | some j =>
     simp only at hk
     cases hb : Nat.beq j id with
     | true => rw [hb] at hk; cases hk
     | false =>
      rw [hb] at hk
      cases hk
      simp only [Ip.set, if_neg (beq_ne hb)]
      exact this.2 _ rfl
 · by_cases e : i = id
   · rw [e, Fid] at hb; cases hb
   · rw [Foth i e] at hb; exact h.lt i b hb
 · obtain ⟨e, y, hy, rfl⟩ := key i r' hi
   rw [Foth i e]; exact h.own i y hy
 · by_cases ei : i = id
   · rw [ei, Fid] at hb; cases hb
   · by_cases ej : j = id
     · rw [ej, Fid] at hb'; cases hb'
     · rw [Foth i ei] at hb; rw [Foth j ej] at hb'; exact h.apart i j hne b hb hb'
 · refine ⟨((h.own id r0 h0).2 b hb).1, (h.lt id b hb).1, ((h.own id r0 h0).2 b hb).2, (h.lt id b hb).2, fun i hi => ?_⟩
   by_cases e : i = id
   · rw [e, Fid] at hi; cases hi
   · rw [Foth i e] at hi; exact h.apart i id e b hi hb
 · refine ⟨hb.1, hb.2.1, hb.2.2.1, hb.2.2.2.1, fun i hi => ?_⟩
   by_cases e : i = id
   · rw [e, Fid] at hi; cases hi
   · rw [Foth i e] at hi; exact hb.2.2.2.2 i hi
theorem Free.mono {I : Ip} {w0 : Base} {w w' : World} {b : Nat} (h : Free I w0 w b) (hx : Ext w w') : Free I w0 w' b := ⟨h.1, Nat.lt_of_lt_of_le h.2.1 hx.size, h.2.2.1.ext hx, h.2.2.2⟩
theorem RelI.addF {I : Ip} {w0 : Base} {w : World} {σ : St} {a : Act} (h : RelI I w0 σ a w) {id : Nat} (hf : σ.has id = false) {G : List Nat} {u : Value} {b : Nat} {r : R}
 (hn : G.Nodup) (hG : ∀ b ∈ G, Free I w0 w b) (hr : RR (I.set id G u b) w id r) : RelI (I.set id G u b) w0 (σ.add id r) a w := by
 have key : ∀ i r', look (σ.add id r).res i = some r' → (i = id ∧ r' = r) ∨ (i ≠ id ∧ look σ.res i = some r') := by
  intro i r' hi
  rw [St.add, look_cons] at hi
  by_cases e : id = i
  · rw [if_pos e] at hi; cases hi; exact .inl ⟨e.symm, rfl⟩
  · rw [if_neg e] at hi; exact .inr ⟨fun e' => e e'.symm, hi⟩
 have Fid : (I.set id G u b).F id = G := by simp [Ip.set]
 have Foth : ∀ i, i ≠ id → (I.set id G u b).F i = I.F i := fun i hi => by simp [Ip.set, hi]
 refine ⟨h.ext, h.defers, h.size, fun i x hi => (h.slots i x hi).set (St.has_slot hf hi), fun i r' hi => ?_, h.old, fun i b hb => ?_, fun i r' hi => ?_, fun i j hne => ?_⟩
 · rcases key i r' hi with ⟨rfl, rfl⟩ | ⟨e, hi⟩
   · exact hr
   · exact (h.res i r' hi).set e (St.has_res hf hi).2
 · by_cases e : i = id
   · rw [e, Fid] at hb; exact ⟨(hG b hb).2.1, (hG b hb).2.2.2.1⟩
   · rw [Foth i e] at hb; exact h.lt i b hb
 · rcases key i r' hi with ⟨rfl, rfl⟩ | ⟨e, hi⟩
   · rw [Fid]; exact ⟨hn, fun b hb => ⟨(hG b hb).1, (hG b hb).2.2.1⟩⟩
   · rw [Foth i e]; exact h.own i r' hi
 · by_cases ei : i = id
   · by_cases ej : j = id
     · exact absurd (ei.trans ej.symm) hne
     · rw [ei, Fid, Foth j ej]; exact fun b hb hb' => (hG b hb).2.2.2.2 j hb'
   · by_cases ej : j = id
     · rw [ej, Fid, Foth i ei]; exact fun b hb hb' => (hG b hb').2.2.2.2 i hb
     · rw [Foth i ei, Foth j ej]; exact h.apart i j hne
theorem Free.set {I : Ip} {w0 : Base} {w : World} {id : Nat} {G : List Nat} {u : Value} {b c : Nat} (h : Free I w0 w c) (hc : c ∉ G) : Free (I.set id G u b) w0 w c :=
 ⟨h.1, h.2.1, h.2.2.1, h.2.2.2.1, fun i hi => by
  by_cases e : i = id
  · simp only [Ip.set, if_pos e] at hi; exact hc hi
  · simp only [Ip.set, if_neg e] at hi; exact h.2.2.2.2 i hi⟩
def absorb : St → List E → Option (St × List T)
 | σ, [] => some (σ, [])
 | σ, e :: r => match e with
  | .t (.v x) => match absorb σ r with | some (σ', ts) => some (σ', .v x :: ts) | none => none
  | .rf id => match look σ.res id with
   | some (.row k rows) => match absorb (σ.kill id) r with | some (σ', ts) => some (σ', .sl k rows :: ts) | none => none
   | _ => none
  | _ => none
theorem absorb_n : ∀ {l : List E} {σ σ' : St} {ts : List T}, absorb σ l = some (σ', ts) → σ'.n = σ.n
 | [], σ, σ', ts, h => by simp only [absorb, Option.some.injEq, Prod.mk.injEq] at h; rw [h.1]
 | e :: r, σ, σ', ts, h => by
  match e, h with
  | .t (.v x), h =>
   rw [absorb] at h
   split at h
   · rename_i h1; simp only [Option.some.injEq, Prod.mk.injEq] at h; rw [← h.1]; exact absorb_n h1
   · cases h
  | .rf id, h =>
   rw [absorb] at h
   split at h
   · split at h
     · rename_i h1; simp only [Option.some.injEq, Prod.mk.injEq] at h; rw [← h.1]; exact (absorb_n h1).trans rfl
     · cases h
   · cases h
  | .t (.sl _ _), h => cases h
  | .t (.ad _), h => cases h
  | .t (.fn _ _ _), h => cases h
  | .vw _ _, h => cases h
  | .pp _ _, h => cases h
  | .pr _ _ _ _, h => cases h
  | .sb _ _ _ _, h => cases h
  | .tl _ _ _, h => cases h
  | .pf _ _ _, h => cases h
  | .no, h => cases h
theorem kill_live {σ : St} {id j : Nat} {r : R} (h : look (σ.kill id).res j = some r) : j ≠ id ∧ ∃ y, look σ.res j = some y := by
 obtain ⟨h1, h2⟩ := look_delR _ _ _ _ h
 rw [St.pur, look_map] at h2
 obtain ⟨y, hy, _⟩ := Option.map_eq_some_iff.1 h2
 exact ⟨h1, y, hy⟩
theorem RelI.absorbF {w0 : Base} {w : World} {a : Act} : ∀ {l : List E} {σ σ' : St} {ts : List T} {I : Ip} {cs : List Value} (f : E → E), (∀ x, f (.t x) = .t x) → (∀ id r, look σ.res id = some r → f (.rf id) = .rf id) → absorb σ l = some (σ', ts) → RelI I w0 σ a w → VEs I w (l.map f) cs →
 ∃ I' G, RelI I' w0 σ' a w ∧ Cs true w ts cs G ∧ G.Nodup ∧ (∀ b ∈ G, Free I' w0 w b) ∧ ∀ b, Free I w0 w b → Free I' w0 w b ∧ b ∉ G
 | [], σ, σ', ts, I, cs, f, _, _, h, hr, hv => by
  simp only [Go.Q.absorb, Option.some.injEq, Prod.mk.injEq] at h
  obtain ⟨rfl, rfl⟩ := h
  exact ⟨I, [], hr, by unfold Cs; exact ⟨hv, rfl⟩, List.nodup_nil, by simp, fun b hb => ⟨hb, by simp⟩⟩
 | e :: r, σ, σ', ts, I, cs, f, hf1, hf2, h, hr, hv => by
  obtain ⟨c, cr, rfl, h1, h2⟩ := hv
  match e, h, h1 with
  | .t (.v x), h, h1 =>
   rw [Go.Q.absorb] at h
   split at h
   · rename_i h3
     simp only [Option.some.injEq, Prod.mk.injEq] at h
     obtain ⟨rfl, rfl⟩ := h
     obtain ⟨I', G, g1, g2, g3, g4, g5⟩ := RelI.absorbF f hf1 hf2 h3 hr h2
     rw [hf1] at h1
     obtain ⟨G0, h4, _⟩ := h1
     refine ⟨I', G, g1, ?_, g3, g4, g5⟩
     simp only [C] at h4
     unfold Cs
     exact ⟨c, cr, [], G, rfl, by unfold C; exact ⟨h4.1, rfl, h4.2.2⟩, g2, rfl⟩
   · cases h
  | .rf id, h, h1 =>
   rw [Go.Q.absorb] at h
   split at h
   · rename_i k rows h0
     split at h
     · rename_i h3
       simp only [Option.some.injEq, Prod.mk.injEq] at h
       obtain ⟨rfl, rfl⟩ := h
       obtain ⟨k1, k2, k3⟩ := hr.kill h0
       rw [hf2 id _ h0] at h1
       have hc : c = I.hd id := h1.1
       have hC : C true w (.sl k rows) _ _ := hr.res id _ h0
       have hv2 : VEs (I.set id [] (I.hd id) (I.B id)) w ((r.map f).map (E.pur id)) cr := h2.pur (Chg.refl w (I.F id)) (fun b hz hb => (hr.lt id b hb).2 hz) (fun i hi => hr.apart i id hi)
       rw [List.map_map] at hv2
       obtain ⟨I', G, g1, g2, g3, g4, g5⟩ := RelI.absorbF (E.pur id ∘ f) (fun x => by simp [hf1, E.pur]) (fun j r' hj => by
        obtain ⟨e1, y, e2⟩ := kill_live hj
        have eb : Nat.beq j id = false := by
         cases hb : Nat.beq j id with
         | false => rfl
         | true => exact absurd (Nat.eq_of_beq_eq_true hb) e1
        simp [hf2 j y e2, E.pur, eb]) h3 k1 hv2
       refine ⟨I', I.F id ++ G, g1, ?_, List.nodup_append.2 ⟨(hr.own id _ h0).1, g3, fun x hx y hy e => (g5 x (k2 x hx)).2 (e ▸ hy)⟩, fun b hb => ?_, fun b hb => ⟨(g5 b (k3 b hb)).1, fun hm => ?_⟩⟩
       · unfold Cs; exact ⟨c, cr, I.F id, G, rfl, by rw [hc]; exact hC, g2, rfl⟩
       · rcases List.mem_append.1 hb with hb | hb
         · exact (g5 b (k2 b hb)).1
         · exact g4 b hb
       · rcases List.mem_append.1 hm with hm | hm
         · exact hb.2.2.2.2 id hm
         · exact (g5 b (k3 b hb)).2 hm
     · cases h
   · cases h
  | .t (.sl _ _), h, _ => cases h
  | .t (.ad _), h, _ => cases h
  | .t (.fn _ _ _), h, _ => cases h
  | .vw _ _, h, _ => cases h
  | .pp _ _, h, _ => cases h
  | .pr _ _ _ _, h, _ => cases h
  | .sb _ _ _ _, h, _ => cases h
  | .tl _ _ _, h, _ => cases h
  | .pf _ _ _, h, _ => cases h
  | .no, h, _ => cases h
theorem RelI.absorb {w0 : Base} {w : World} {a : Act} {l : List E} {σ σ' : St} {ts : List T} {I : Ip} {cs : List Value} (h : absorb σ l = some (σ', ts)) (hr : RelI I w0 σ a w) (hv : VEs I w l cs) :
 ∃ I' G, RelI I' w0 σ' a w ∧ Cs true w ts cs G ∧ G.Nodup ∧ (∀ b ∈ G, Free I' w0 w b) ∧ ∀ b, Free I w0 w b → Free I' w0 w b ∧ b ∉ G :=
 RelI.absorbF id (fun _ => rfl) (fun _ _ _ => rfl) h hr (by simpa using hv)
def mapO {α β : Type} (f : α → Option β) : List α → Option (List β)
 | [] => some []
 | e :: r => match f e with
  | some t => (match mapO f r with | some ts => some (t :: ts) | none => none)
  | none => none
def readE0 (σ : St) : E → Option T
 | .t x => some x
 | .vw _ x => some x
 | .rf id => match look σ.res id with | some (.row k rows) => some (.sl k rows) | _ => none
 | _ => none
def readE (σ : St) : Nat → E → Option T
 | 0 => readE0 σ
 | n + 1 => fun e => match e with
  | .pp id off => (match look σ.res id with | some (.box cs) => (match mapO (readE σ n) (cs.drop off) with | some ts => some (.ad ts) | none => none) | _ => none)
  | e => readE0 σ e
theorem Ms_of_cells {w : World} {b : Nat} : ∀ {ts : List T} {cs : List Value} {G : List Nat} (off : Nat), Cs false w ts cs G → (∀ (j : Nat) (u : Value), cs[j]? = some u → w.cell? ⟨b, off + j, none⟩ = some u) → Ms false w b off ts G
 | [], cs, G, off, h, _ => by simp only [Cs] at h; simp only [Ms]; exact h.2
 | t :: r, cs, G, off, h, hc => by
  simp only [Cs] at h
  obtain ⟨c, cr, G1, G2, rfl, h2, h3, rfl⟩ := h
  simp only [Ms]
  exact ⟨c, G1, G2, by simpa using hc 0 c rfl, h2, Ms_of_cells (off + 1) h3 fun j u hj => by have := hc (j + 1) u (by simpa using hj); simpa [Nat.add_comm, Nat.add_left_comm] using this, rfl⟩
theorem VEs_drop {I : Ip} {w : World} : ∀ {l : List E} {cs : List Value} (n : Nat), VEs I w l cs → VEs I w (l.drop n) (cs.drop n)
 | l, cs, 0, h => by simpa using h
 | [], cs, n + 1, h => by simp only [VEs] at h; subst h; simp [VEs]
 | e :: l, cs, n + 1, h => by obtain ⟨c, cr, rfl, h1, h2⟩ := h; simpa using VEs_drop n h2
theorem VEs_take {I : Ip} {w : World} : ∀ {l : List E} {cs : List Value} (n : Nat), VEs I w l cs → VEs I w (l.take n) (cs.take n)
 | l, cs, 0, h => by simp [VEs]
 | [], cs, n + 1, h => by simp only [VEs] at h; subst h; simp [VEs]
 | e :: l, cs, n + 1, h => by
  obtain ⟨c, cr, rfl, h1, h2⟩ := h
  exact ⟨c, cr.take n, by simp, h1, VEs_take n h2⟩
theorem VEs_len {I : Ip} {w : World} : ∀ {l : List E} {cs : List Value}, VEs I w l cs → cs.length = l.length
 | [], cs, h => by simp only [VEs] at h; subst h; rfl
 | e :: l, cs, h => by obtain ⟨c, cr, rfl, h1, h2⟩ := h; simp [VEs_len h2]
theorem readE0_ok {σ : St} {I : Ip} {w0 : Base} {w : World} {a : Act} (hr : RelI I w0 σ a w) {e : E} {t : T} {c : Value} (h : readE0 σ e = some t) (hv : VE I w e c) : ∃ G, C false w t c G := by
 cases e with
 | t x => cases h; obtain ⟨G, h1, _⟩ := hv; exact ⟨G, h1⟩
 | vw id x => cases h; obtain ⟨G, h1, _⟩ := hv; exact ⟨G, h1⟩
 | rf id =>
  rw [readE0] at h
  split at h
  · rename_i k rows h0
    cases h
    have hc : c = I.hd id := hv.1
    rw [hc]; exact ⟨_, C.read (show C true w (.sl k rows) _ _ from hr.res id _ h0)⟩
  · cases h
 | pp id off => cases h
 | pr id k i j => cases h
 | sb id k i j => cases h
 | tl id k j => cases h
 | pf id k j => cases h
 | no => cases h
theorem mapO_ok {I : Ip} {w : World} {f : E → Option T} (hf : ∀ e t c, f e = some t → VE I w e c → ∃ G, C false w t c G) : ∀ {l : List E} {ts : List T} {cs : List Value}, mapO f l = some ts → VEs I w l cs → ∃ G, Cs false w ts cs G
 | [], ts, cs, h, hv => by cases h; exact ⟨[], by unfold Cs; exact ⟨hv, rfl⟩⟩
 | e :: r, ts, cs, h, hv => by
  obtain ⟨c, cr, rfl, h1, h2⟩ := hv
  rw [mapO] at h
  split at h
  · rename_i t e1
    split at h
    · rename_i ts' e2
      cases h
      obtain ⟨G1, g1⟩ := hf e t c e1 h1
      obtain ⟨G2, g2⟩ := mapO_ok hf e2 h2
      exact ⟨G1 ++ G2, by unfold Cs; exact ⟨c, cr, G1, G2, rfl, g1, g2, rfl⟩⟩
    · cases h
  · cases h
theorem readE_ok {σ : St} {I : Ip} {w0 : Base} {w : World} {a : Act} (hr : RelI I w0 σ a w) : ∀ (n : Nat) (e : E) (t : T) (c : Value), readE σ n e = some t → VE I w e c → ∃ G, C false w t c G
 | 0, e, t, c, h, hv => readE0_ok hr h hv
 | n + 1, e, t, c, h, hv => by
  rw [readE] at h
  dsimp only at h
  split at h
  · rename_i id off
    split at h
    · rename_i cs h0
      split at h
      · rename_i ts h1
        cases h
        obtain ⟨hF, vs, ty, g1, g2⟩ := hr.res id _ h0
        obtain ⟨G, g3⟩ := mapO_ok (readE_ok hr n) h1 (VEs_drop off g2)
        have hc : c = .pointer (some ⟨I.B id, off, none⟩) := hv
        refine ⟨I.B id :: G, ?_⟩
        rw [hc]
        refine C_ad (Ms_of_cells off g3 fun j u hj => ?_) (Array.getElem?_eq_some_iff.1 g1).1
        have hj' : vs[off + j]? = some u := by rw [List.getElem?_drop] at hj; exact hj
        simp [World.cell?, g1, hj']
      · cases h
    · cases h
  · exact readE0_ok hr h hv
def readA (σ : St) : A → Option V0
 | .one e => match readE σ 4 e with | some t => some (.one t) | none => none
 | .agg l => match mapO (readE σ 4) l with | some ts => some (.agg ts) | none => none
theorem readA_ok {σ : St} {I : Ip} {w0 : Base} {w : World} {a : Act} (hr : RelI I w0 σ a w) {x : A} {t : V0} {v : Value} (h : readA σ x = some t) (hv : VA I w x v) : ∃ G, V0r false w t v G := by
 cases x with
 | one e =>
  rw [readA] at h
  split at h
  · rename_i t' h1; cases h; exact readE_ok hr 4 _ _ _ h1 hv
  · cases h
 | agg l =>
  rw [readA] at h
  split at h
  · rename_i ts h1; cases h
    obtain ⟨cs, h2, h3⟩ := hv
    obtain ⟨G, h4⟩ := mapO_ok (readE_ok hr 4) h1 h3
    exact ⟨G, cs, h2, h4⟩
  · cases h
end Go.Q
