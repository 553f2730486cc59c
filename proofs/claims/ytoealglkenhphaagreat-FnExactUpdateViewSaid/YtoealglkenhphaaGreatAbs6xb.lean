import Derived.Test.YtoealglkenhphaaGreatAbs4xb
import Derived.Laws.OwnMore
set_option linter.unusedVariables false
set_option linter.unusedSimpArgs false
namespace Go.Q
open Go.RowKit
theorem Ext.chg {w w' : World} (h : Ext w w') (G : List Nat) : Chg w w' G := ⟨h.1, h.2, h.3, h.size, fun _ hk _ => h.block hk⟩
def delR : List (Nat × R) → Nat → List (Nat × R)
 | [], _ => []
 | (i, x) :: l, id => bif Nat.beq i id then delR l id else (i, x) :: delR l id
theorem look_delR : ∀ (l : List (Nat × R)) (id i : Nat) (x : R), look (delR l id) i = some x → i ≠ id ∧ look l i = some x
 | [], _, _, _, h => by cases h
 | (j, y) :: l, id, i, x, h => by
  rw [delR] at h
  by_cases e : j = id
  ·subst e
   simp only [Nat.beq_refl, cond_true] at h
   obtain ⟨h1, h2⟩ := look_delR l j i x h
   exact ⟨h1, by rw [look_cons, if_neg (fun e => h1 e.symm)]; exact h2⟩
  ·have eb : Nat.beq j id = false := by
    cases hb : Nat.beq j id with
    | false => rfl
    | true => exact absurd (Nat.eq_of_beq_eq_true hb) e
   simp only [eb, cond_false] at h
   rw [look_cons] at h
   by_cases e' : j = i
   ·rw [if_pos e'] at h; cases h
    exact ⟨fun h => e (e'.trans h), by rw [look_cons, if_pos e']⟩
   ·rw [if_neg e'] at h
    obtain ⟨h1, h2⟩ := look_delR l id i x h
    exact ⟨h1, by rw [look_cons, if_neg e']; exact h2⟩
def St.kill (σ : St) (id : Nat) : St := { σ.pur id with res := delR (σ.pur id).res id }
theorem RelI.kill {I : Ip} {w0 : Base} {w : World} {σ : St} {a : Act} (h : RelI I w0 σ a w) {id : Nat} {r0 : R} (h0 : look σ.res id = some r0) :
  RelI (I.set id [] (I.hd id) (I.B id)) w0 (σ.kill id) a w ∧ (∀ b ∈ I.F id, Free (I.set id [] (I.hd id) (I.B id)) w0 w b) ∧ ∀ b, Free I w0 w b → Free (I.set id [] (I.hd id) (I.B id)) w0 w b := by
 have hZ : ∀ b, I.Z b → b ∉ I.F id := fun b hz hb => (h.lt id b hb).2 hz
 have hv : ∀ i, i ≠ id → ∀ b ∈ I.F i, b ∉ I.F id := fun i hi => h.apart i id hi
 have hc := Chg.refl w (I.F id)
 have Fid : (I.set id [] (I.hd id) (I.B id)).F id = [] := by simp [Ip.set]
 have Foth : ∀ i, i ≠ id → (I.set id [] (I.hd id) (I.B id)).F i = I.F i := fun i hi => by simp [Ip.set, hi]
 have key : ∀ i r', look (σ.kill id).res i = some r' → i ≠ id ∧ ∃ y, look σ.res i = some y ∧ r' = y.pur id := by
  intro i r' hi
  obtain ⟨h1, h2⟩ := look_delR _ _ _ _ hi
  refine ⟨h1, ?_⟩
  rw [St.pur, look_map] at h2
  obtain ⟨y, hy, e⟩ := Option.map_eq_some_iff.1 h2
  exact ⟨y, hy, e.symm⟩
 refine ⟨⟨h.ext, h.defers, h.size, fun i x hi => ?_, fun i r' hi => ?_, h.old, fun i b hb => ?_, fun i r' hi => ?_, fun i j hne b hb hb' => ?_⟩, fun b hb => ?_, fun b hb => ?_⟩
 ·have hi' : look (σ.slots.map fun x => (x.1, (x.2.1, x.2.2.pur id))) i = some x := hi
  rw [look_map (fun x : Bool × S => (x.1, x.2.pur id))] at hi'
  obtain ⟨y, hy, rfl⟩ := Option.map_eq_some_iff.1 hi'
  exact (h.slots i y hy).pur hc hZ hv
 ·obtain ⟨e, y, hy, rfl⟩ := key i r' hi
  have := h.res i y hy
  cases y with
  | row k rows =>
   have this : C true w (.sl k rows) (I.hd i) (I.F i) := this
   show C true w (.sl k rows) _ _
   simpa only [Ip.set, if_neg e] using this
  | box cs =>
   obtain ⟨h1, vs, t, h2, h3⟩ := this
   exact ⟨by simpa only [Ip.set, if_neg e] using h1, vs, t, by simpa only [Ip.set, if_neg e] using h2, h3.pur hc hZ hv⟩
  | hdr j x =>
   refine ⟨by simp only [Ip.set, if_neg e]; exact this.1, fun k hk => ?_⟩
   cases j with
   | none => cases hk
   | some j =>
    simp only at hk
    cases hb : Nat.beq j id with
    | true => rw [hb] at hk; cases hk
    | false =>
     rw [hb] at hk
     cases hk
     simp only [Ip.set, if_neg (beq_ne hb)]
     exact this.2 _ rfl
 ·by_cases e : i = id
  ·rw [e, Fid] at hb; cases hb
  ·rw [Foth i e] at hb; exact h.lt i b hb
 ·obtain ⟨e, y, hy, rfl⟩ := key i r' hi
  rw [Foth i e]; exact h.own i y hy
 ·by_cases ei : i = id
  ·rw [ei, Fid] at hb; cases hb
  ·by_cases ej : j = id
   ·rw [ej, Fid] at hb'; cases hb'
   ·rw [Foth i ei] at hb; rw [Foth j ej] at hb'; exact h.apart i j hne b hb hb'
 ·refine ⟨((h.own id r0 h0).2 b hb).1, (h.lt id b hb).1, ((h.own id r0 h0).2 b hb).2, (h.lt id b hb).2, fun i hi => ?_⟩
  by_cases e : i = id
  ·rw [e, Fid] at hi; cases hi
  ·rw [Foth i e] at hi; exact h.apart i id e b hi hb
 ·refine ⟨hb.1, hb.2.1, hb.2.2.1, hb.2.2.2.1, fun i hi => ?_⟩
  by_cases e : i = id
  ·rw [e, Fid] at hi; cases hi
  ·rw [Foth i e] at hi; exact hb.2.2.2.2 i hi
theorem Free.mono {I : Ip} {w0 : Base} {w w' : World} {b : Nat} (h : Free I w0 w b) (hx : Ext w w') : Free I w0 w' b := ⟨h.1, Nat.lt_of_lt_of_le h.2.1 hx.size, h.2.2.1.ext hx, h.2.2.2⟩
theorem RelI.addF {I : Ip} {w0 : Base} {w : World} {σ : St} {a : Act} (h : RelI I w0 σ a w) {id : Nat} (hf : σ.has id = false) {G : List Nat} {u : Value} {b : Nat} {r : R}
  (hn : G.Nodup) (hG : ∀ b ∈ G, Free I w0 w b) (hr : RR (I.set id G u b) w id r) : RelI (I.set id G u b) w0 (σ.add id r) a w := by
 have key : ∀ i r', look (σ.add id r).res i = some r' → (i = id ∧ r' = r) ∨ (i ≠ id ∧ look σ.res i = some r') := by
  intro i r' hi
  rw [St.add, look_cons] at hi
  by_cases e : id = i
  ·rw [if_pos e] at hi; cases hi; exact .inl ⟨e.symm, rfl⟩
  ·rw [if_neg e] at hi; exact .inr ⟨fun e' => e e'.symm, hi⟩
 have Fid : (I.set id G u b).F id = G := by simp [Ip.set]
 have Foth : ∀ i, i ≠ id → (I.set id G u b).F i = I.F i := fun i hi => by simp [Ip.set, hi]
 refine ⟨h.ext, h.defers, h.size, fun i x hi => (h.slots i x hi).set (St.has_slot hf hi), fun i r' hi => ?_, h.old, fun i b hb => ?_, fun i r' hi => ?_, fun i j hne => ?_⟩
 ·rcases key i r' hi with ⟨rfl, rfl⟩ | ⟨e, hi⟩
  ·exact hr
  ·exact (h.res i r' hi).set e (St.has_res hf hi).2
 ·by_cases e : i = id
  ·rw [e, Fid] at hb; exact ⟨(hG b hb).2.1, (hG b hb).2.2.2.1⟩
  ·rw [Foth i e] at hb; exact h.lt i b hb
 ·rcases key i r' hi with ⟨rfl, rfl⟩ | ⟨e, hi⟩
  ·rw [Fid]; exact ⟨hn, fun b hb => ⟨(hG b hb).1, (hG b hb).2.2.1⟩⟩
  ·rw [Foth i e]; exact h.own i r' hi
 ·by_cases ei : i = id
  ·by_cases ej : j = id
   ·exact absurd (ei.trans ej.symm) hne
   ·rw [ei, Fid, Foth j ej]; exact fun b hb hb' => (hG b hb).2.2.2.2 j hb'
  ·by_cases ej : j = id
   ·rw [ej, Fid, Foth i ei]; exact fun b hb hb' => (hG b hb').2.2.2.2 i hb
   ·rw [Foth i ei, Foth j ej]; exact h.apart i j hne
theorem Free.set {I : Ip} {w0 : Base} {w : World} {id : Nat} {G : List Nat} {u : Value} {b c : Nat} (h : Free I w0 w c) (hc : c ∉ G) : Free (I.set id G u b) w0 w c :=
 ⟨h.1, h.2.1, h.2.2.1, h.2.2.2.1, fun i hi => by
  by_cases e : i = id
  ·simp only [Ip.set, if_pos e] at hi; exact hc hi
  ·simp only [Ip.set, if_neg e] at hi; exact h.2.2.2.2 i hi⟩
def absorb : St → List E → Option (St × List T)
 | σ, [] => some (σ, [])
 | σ, e :: r => match e with
  | .t (.v x) => match absorb σ r with | some (σ', ts) => some (σ', .v x :: ts) | none => none
  | .rf id => match look σ.res id with
   | some (.row k rows) => match absorb (σ.kill id) r with | some (σ', ts) => some (σ', .sl k rows :: ts) | none => none
   | _ => none
  | _ => none
theorem absorb_n : ∀ {l : List E} {σ σ' : St} {ts : List T}, absorb σ l = some (σ', ts) → σ'.n = σ.n
 | [], σ, σ', ts, h => by simp only [absorb, Option.some.injEq, Prod.mk.injEq] at h; rw [h.1]
 | e :: r, σ, σ', ts, h => by
  match e, h with
  | .t (.v x), h =>
   rw [absorb] at h
   split at h
   ·rename_i h1; simp only [Option.some.injEq, Prod.mk.injEq] at h; rw [← h.1]; exact absorb_n h1
   ·cases h
  | .rf id, h =>
   rw [absorb] at h
   split at h
   ·split at h
    ·rename_i h1; simp only [Option.some.injEq, Prod.mk.injEq] at h; rw [← h.1]; exact (absorb_n h1).trans rfl
    ·cases h
   ·cases h
  | .t (.sl _ _), h => cases h
  | .t (.ad _), h => cases h
  | .t (.fn _ _ _), h => cases h
  | .vw _ _, h => cases h
  | .pp _ _, h => cases h
  | .pr _ _ _ _, h => cases h
  | .sb _ _ _ _, h => cases h
  | .tl _ _ _, h => cases h
  | .pf _ _ _, h => cases h
  | .no, h => cases h
theorem kill_live {σ : St} {id j : Nat} {r : R} (h : look (σ.kill id).res j = some r) : j ≠ id ∧ ∃ y, look σ.res j = some y := by
 obtain ⟨h1, h2⟩ := look_delR _ _ _ _ h
 rw [St.pur, look_map] at h2
 obtain ⟨y, hy, _⟩ := Option.map_eq_some_iff.1 h2
 exact ⟨h1, y, hy⟩
theorem RelI.absorbF {w0 : Base} {w : World} {a : Act} : ∀ {l : List E} {σ σ' : St} {ts : List T} {I : Ip} {cs : List Value} (f : E → E), (∀ x, f (.t x) = .t x) → (∀ id r, look σ.res id = some r → f (.rf id) = .rf id) → absorb σ l = some (σ', ts) → RelI I w0 σ a w → VEs I w (l.map f) cs →
  ∃ I' G, RelI I' w0 σ' a w ∧ Cs true w ts cs G ∧ G.Nodup ∧ (∀ b ∈ G, Free I' w0 w b) ∧ ∀ b, Free I w0 w b → Free I' w0 w b ∧ b ∉ G
 | [], σ, σ', ts, I, cs, f, _, _, h, hr, hv => by
  simp only [Go.Q.absorb, Option.some.injEq, Prod.mk.injEq] at h
  obtain ⟨rfl, rfl⟩ := h
  exact ⟨I, [], hr, by unfold Cs; exact ⟨hv, rfl⟩, List.nodup_nil, by simp, fun b hb => ⟨hb, by simp⟩⟩
 | e :: r, σ, σ', ts, I, cs, f, hf1, hf2, h, hr, hv => by
  obtain ⟨c, cr, rfl, h1, h2⟩ := hv
  match e, h, h1 with
  | .t (.v x), h, h1 =>
   rw [Go.Q.absorb] at h
   split at h
   ·rename_i h3
    simp only [Option.some.injEq, Prod.mk.injEq] at h
    obtain ⟨rfl, rfl⟩ := h
    obtain ⟨I', G, g1, g2, g3, g4, g5⟩ := RelI.absorbF f hf1 hf2 h3 hr h2
    rw [hf1] at h1
    obtain ⟨G0, h4, _⟩ := h1
    refine ⟨I', G, g1, ?_, g3, g4, g5⟩
    simp only [C] at h4
    unfold Cs
    exact ⟨c, cr, [], G, rfl, by unfold C; exact ⟨h4.1, rfl, h4.2.2⟩, g2, rfl⟩
   ·cases h
  | .rf id, h, h1 =>
   rw [Go.Q.absorb] at h
   split at h
   ·rename_i k rows h0
    split at h
    ·rename_i h3
     simp only [Option.some.injEq, Prod.mk.injEq] at h
     obtain ⟨rfl, rfl⟩ := h
     obtain ⟨k1, k2, k3⟩ := hr.kill h0
     rw [hf2 id _ h0] at h1
     have hc : c = I.hd id := h1.1
     have hC : C true w (.sl k rows) _ _ := hr.res id _ h0
     have hv2 : VEs (I.set id [] (I.hd id) (I.B id)) w ((r.map f).map (E.pur id)) cr := h2.pur (Chg.refl w (I.F id)) (fun b hz hb => (hr.lt id b hb).2 hz) (fun i hi => hr.apart i id hi)
     rw [List.map_map] at hv2
     obtain ⟨I', G, g1, g2, g3, g4, g5⟩ := RelI.absorbF (E.pur id ∘ f) (fun x => by simp [hf1, E.pur]) (fun j r' hj => by
      obtain ⟨e1, y, e2⟩ := kill_live hj
      have eb : Nat.beq j id = false := by
       cases hb : Nat.beq j id with
       | false => rfl
       | true => exact absurd (Nat.eq_of_beq_eq_true hb) e1
      simp [hf2 j y e2, E.pur, eb]) h3 k1 hv2
     refine ⟨I', I.F id ++ G, g1, ?_, List.nodup_append.2 ⟨(hr.own id _ h0).1, g3, fun x hx y hy e => (g5 x (k2 x hx)).2 (e ▸ hy)⟩, fun b hb => ?_, fun b hb => ⟨(g5 b (k3 b hb)).1, fun hm => ?_⟩⟩
     ·unfold Cs; exact ⟨c, cr, I.F id, G, rfl, by rw [hc]; exact hC, g2, rfl⟩
     ·rcases List.mem_append.1 hb with hb | hb
      ·exact (g5 b (k2 b hb)).1
      ·exact g4 b hb
     ·rcases List.mem_append.1 hm with hm | hm
      ·exact hb.2.2.2.2 id hm
      ·exact (g5 b (k3 b hb)).2 hm
    ·cases h
   ·cases h
  | .t (.sl _ _), h, _ => cases h
  | .t (.ad _), h, _ => cases h
  | .t (.fn _ _ _), h, _ => cases h
  | .vw _ _, h, _ => cases h
  | .pp _ _, h, _ => cases h
  | .pr _ _ _ _, h, _ => cases h
  | .sb _ _ _ _, h, _ => cases h
  | .tl _ _ _, h, _ => cases h
  | .pf _ _ _, h, _ => cases h
  | .no, h, _ => cases h
theorem RelI.absorb {w0 : Base} {w : World} {a : Act} {l : List E} {σ σ' : St} {ts : List T} {I : Ip} {cs : List Value} (h : absorb σ l = some (σ', ts)) (hr : RelI I w0 σ a w) (hv : VEs I w l cs) :
  ∃ I' G, RelI I' w0 σ' a w ∧ Cs true w ts cs G ∧ G.Nodup ∧ (∀ b ∈ G, Free I' w0 w b) ∧ ∀ b, Free I w0 w b → Free I' w0 w b ∧ b ∉ G :=
 RelI.absorbF id (fun _ => rfl) (fun _ _ _ => rfl) h hr (by simpa using hv)
def mapO {α β : Type} (f : α → Option β) : List α → Option (List β)
 | [] => some []
 | e :: r => match f e with
  | some t => (match mapO f r with | some ts => some (t :: ts) | none => none)
  | none => none
def readE0 (σ : St) : E → Option T
 | .t x => some x
 | .vw _ x => some x
 | .rf id => match look σ.res id with | some (.row k rows) => some (.sl k rows) | _ => none
 | _ => none
def readE (σ : St) : Nat → E → Option T
 | 0 => readE0 σ
 | n + 1 => fun e => match e with
  | .pp id off => (match look σ.res id with | some (.box cs) => (match mapO (readE σ n) (cs.drop off) with | some ts => some (.ad ts) | none => none) | _ => none)
  | e => readE0 σ e
theorem Ms_of_cells {w : World} {b : Nat} : ∀ {ts : List T} {cs : List Value} {G : List Nat} (off : Nat), Cs false w ts cs G → (∀ (j : Nat) (u : Value), cs[j]? = some u → w.cell? ⟨b, off + j, none⟩ = some u) → Ms false w b off ts G
 | [], cs, G, off, h, _ => by simp only [Cs] at h; simp only [Ms]; exact h.2
 | t :: r, cs, G, off, h, hc => by
  simp only [Cs] at h
  obtain ⟨c, cr, G1, G2, rfl, h2, h3, rfl⟩ := h
  simp only [Ms]
  exact ⟨c, G1, G2, by simpa using hc 0 c rfl, h2, Ms_of_cells (off + 1) h3 fun j u hj => by have := hc (j + 1) u (by simpa using hj); simpa [Nat.add_comm, Nat.add_left_comm] using this, rfl⟩
theorem VEs_drop {I : Ip} {w : World} : ∀ {l : List E} {cs : List Value} (n : Nat), VEs I w l cs → VEs I w (l.drop n) (cs.drop n)
 | l, cs, 0, h => by simpa using h
 | [], cs, n + 1, h => by simp only [VEs] at h; subst h; simp [VEs]
 | e :: l, cs, n + 1, h => by obtain ⟨c, cr, rfl, h1, h2⟩ := h; simpa using VEs_drop n h2
theorem VEs_take {I : Ip} {w : World} : ∀ {l : List E} {cs : List Value} (n : Nat), VEs I w l cs → VEs I w (l.take n) (cs.take n)
 | l, cs, 0, h => by simp [VEs]
 | [], cs, n + 1, h => by simp only [VEs] at h; subst h; simp [VEs]
 | e :: l, cs, n + 1, h => by
  obtain ⟨c, cr, rfl, h1, h2⟩ := h
  exact ⟨c, cr.take n, by simp, h1, VEs_take n h2⟩
theorem VEs_len {I : Ip} {w : World} : ∀ {l : List E} {cs : List Value}, VEs I w l cs → cs.length = l.length
 | [], cs, h => by simp only [VEs] at h; subst h; rfl
 | e :: l, cs, h => by obtain ⟨c, cr, rfl, h1, h2⟩ := h; simp [VEs_len h2]
theorem readE0_ok {σ : St} {I : Ip} {w0 : Base} {w : World} {a : Act} (hr : RelI I w0 σ a w) {e : E} {t : T} {c : Value} (h : readE0 σ e = some t) (hv : VE I w e c) : ∃ G, C false w t c G := by
 cases e with
 | t x => cases h; obtain ⟨G, h1, _⟩ := hv; exact ⟨G, h1⟩
 | vw id x => cases h; obtain ⟨G, h1, _⟩ := hv; exact ⟨G, h1⟩
 | rf id =>
  rw [readE0] at h
  split at h
  ·rename_i k rows h0
   cases h
   have hc : c = I.hd id := hv.1
   rw [hc]; exact ⟨_, C.read (show C true w (.sl k rows) _ _ from hr.res id _ h0)⟩
  ·cases h
 | pp id off => cases h
 | pr id k i j => cases h
 | sb id k i j => cases h
 | tl id k j => cases h
 | pf id k j => cases h
 | no => cases h
theorem mapO_ok {I : Ip} {w : World} {f : E → Option T} (hf : ∀ e t c, f e = some t → VE I w e c → ∃ G, C false w t c G) : ∀ {l : List E} {ts : List T} {cs : List Value}, mapO f l = some ts → VEs I w l cs → ∃ G, Cs false w ts cs G
 | [], ts, cs, h, hv => by cases h; exact ⟨[], by unfold Cs; exact ⟨hv, rfl⟩⟩
 | e :: r, ts, cs, h, hv => by
  obtain ⟨c, cr, rfl, h1, h2⟩ := hv
  rw [mapO] at h
  split at h
  ·rename_i t e1
   split at h
   ·rename_i ts' e2
    cases h
    obtain ⟨G1, g1⟩ := hf e t c e1 h1
    obtain ⟨G2, g2⟩ := mapO_ok hf e2 h2
    exact ⟨G1 ++ G2, by unfold Cs; exact ⟨c, cr, G1, G2, rfl, g1, g2, rfl⟩⟩
   ·cases h
  ·cases h
theorem readE_ok {σ : St} {I : Ip} {w0 : Base} {w : World} {a : Act} (hr : RelI I w0 σ a w) : ∀ (n : Nat) (e : E) (t : T) (c : Value), readE σ n e = some t → VE I w e c → ∃ G, C false w t c G
 | 0, e, t, c, h, hv => readE0_ok hr h hv
 | n + 1, e, t, c, h, hv => by
  rw [readE] at h
  dsimp only at h
  split at h
  ·rename_i id off
   split at h
   ·rename_i cs h0
    split at h
    ·rename_i ts h1
     cases h
     obtain ⟨hF, vs, ty, g1, g2⟩ := hr.res id _ h0
     obtain ⟨G, g3⟩ := mapO_ok (readE_ok hr n) h1 (VEs_drop off g2)
     have hc : c = .pointer (some ⟨I.B id, off, none⟩) := hv
     refine ⟨I.B id :: G, ?_⟩
     rw [hc]
     refine C_ad (Ms_of_cells off g3 fun j u hj => ?_) (Array.getElem?_eq_some_iff.1 g1).1
     have hj' : vs[off + j]? = some u := by rw [List.getElem?_drop] at hj; exact hj
     simp [World.cell?, g1, hj']
    ·cases h
   ·cases h
  ·exact readE0_ok hr h hv
def readA (σ : St) : A → Option V0
 | .one e => match readE σ 4 e with | some t => some (.one t) | none => none
 | .agg l => match mapO (readE σ 4) l with | some ts => some (.agg ts) | none => none
theorem readA_ok {σ : St} {I : Ip} {w0 : Base} {w : World} {a : Act} (hr : RelI I w0 σ a w) {x : A} {t : V0} {v : Value} (h : readA σ x = some t) (hv : VA I w x v) : ∃ G, V0r false w t v G := by
 cases x with
 | one e =>
  rw [readA] at h
  split at h
  ·rename_i t' h1; cases h; exact readE_ok hr 4 _ _ _ h1 hv
  ·cases h
 | agg l =>
  rw [readA] at h
  split at h
  ·rename_i ts h1; cases h
   obtain ⟨cs, h2, h3⟩ := hv
   obtain ⟨G, h4⟩ := mapO_ok (readE_ok hr 4) h1 h3
   exact ⟨G, cs, h2, h4⟩
  ·cases h
end Go.Q
set_option linter.unusedVariables false
set_option linter.unusedSimpArgs false
namespace Go.Q
open Go.RowKit
section
variable {P : Program} {ops : Array Oper} {o : Oper} {σ : St} {q : Bool}
theorem Op1.eff {σ' : St} (hg : o.guard = none) (h : ∀ w0 a w, Rel w0 σ a w → ∃ v w', (execOp a.eval o).run P w = .ok (.value v) w' ∧ Rel w0 σ' (a.put o.dst v) w') : Op1 P ops o σ σ' := by
 intro w0 a w hr K Q hK
 simp only [Region.wanted, hg, if_true]
 obtain ⟨v, w', h1, h2⟩ := h w0 a w hr
 unfold Oper.wp
 rw [h1]
 exact hK _ _ h2
theorem Op1.skip {σ' : St} (hg : o.guard = none) (h : ∀ w0 a w, Rel w0 σ a w → ∃ w', (execOp a.eval o).run P w = .ok .skip w' ∧ Rel w0 σ' (a.put o.dst undef) w') : Op1 P ops o σ σ' := by
 intro w0 a w hr K Q hK
 simp only [Region.wanted, hg, if_true]
 obtain ⟨w', h1, h2⟩ := h w0 a w hr
 unfold Oper.wp
 rw [h1]
 exact hK _ _ h2
def cellsA : A → List E
 | .one e => [e]
 | .agg l => l
def E.cell1 : E → Bool
 | .no => false
 | .sb _ _ _ _ => false
 | _ => true
theorem C.cell1 {o : Bool} {w : World} {t : T} {c : Value} {F : List Nat} (h : C o w t c F) : c.oneCell' = true := by
 cases t with
 | v x => simp only [C] at h; obtain ⟨rfl, _, h⟩ := h; exact h
 | sl k rows => simp only [C] at h; obtain ⟨a, l, k, rfl, _⟩ := h; rfl
 | ad cs => simp only [C] at h; obtain ⟨b, off, G, rfl, _⟩ := h; rfl
 | fn f x y => simp only [C] at h; obtain ⟨xs, ys, G1, G2, rfl, _⟩ := h; rfl
theorem VE.cell1 {I : Ip} {w : World} {e : E} {c : Value} (h : VE I w e c) (he : e.cell1 = true) : c.oneCell' = true := by
 cases e with
 | t x => obtain ⟨G, h1, _⟩ := h; exact h1.cell1
 | rf id => obtain ⟨_, a, l, k, rfl⟩ := h; rfl
 | tl id k j => obtain ⟨_, _, _, _, _, rfl, _⟩ := h; rfl
 | pf id k j => obtain ⟨_, _, _, _, rfl, _⟩ := h; rfl
 | vw id x => obtain ⟨G, h1, _⟩ := h; exact h1.cell1
 | pp id o => have h' : c = _ := h; rw [h']; rfl
 | pr id k i j => obtain ⟨_, _, _, _, h'⟩ := h; rw [h']; rfl
 | sb id k i j => cases he
 | no => cases he
theorem VEs.cell1 {I : Ip} {w : World} : ∀ {l : List E} {cs : List Value}, VEs I w l cs → l.all E.cell1 = true → ∀ c ∈ cs, c.oneCell' = true
 | [], cs, h, _, c, hc => by simp only [VEs] at h; subst h; cases hc
 | e :: l, cs, h, he, c, hc => by
  obtain ⟨c0, cr, rfl, h1, h2⟩ := h
  simp only [List.all_cons, Bool.and_eq_true] at he
  rcases List.mem_cons.1 hc with rfl | hc
  ·exact h1.cell1 he.1
  ·exact VEs.cell1 h2 he.2 c hc
theorem cells_one {v : Value} (h : v.oneCell' = true) : v.cells = #[v] := by cases v <;> first | rfl | cases h
theorem VA.cells {I : Ip} {w : World} {x : A} {v : Value} (h : VA I w x v) (he : (cellsA x).all E.cell1 = true) : ∃ cs, v.cells = List.toArray cs ∧ VEs I w (cellsA x) cs ∧ ∀ c ∈ cs, c.oneCell' = true := by
 cases x with
 | one e =>
  have h1 : VEs I w [e] [v] := ⟨v, [], rfl, h, rfl⟩
  have h2 := h1.cell1 he
  exact ⟨[v], by rw [cells_one (h2 v (by simp))], h1, h2⟩
 | agg l =>
  obtain ⟨cs, rfl, h1⟩ := h
  exact ⟨cs, rfl, h1, h1.cell1 he⟩
theorem thaw_new {w : World} {cs : Array Value} {t : TypeId} : Thaw (w.alloc (.cells cs t)) w.heap.size := ⟨cs, t, heap_alloc_new w _⟩
theorem RelI.box {I : Ip} {w0 : Base} {w : World} {a : Act} (hr : RelI I w0 σ a w) {id : Nat} {l : List E} {cs : List Value} {t : TypeId} (hf : σ.has id = false) (hfl : l.any (E.has id) = false) (hv : VEs I w l cs) :
  RelI (I.set id [w.heap.size] undef w.heap.size) w0 (σ.add id (.box l)) a (w.alloc (.cells cs.toArray t)) := by
 refine hr.add hf ((Ext.refl w).alloc _) ⟨by simp, fun b hb => ?_⟩ ⟨by simp [Ip.set], cs, t, by simp only [Ip.set, if_true]; exact heap_alloc_new w _, ?_⟩
 ·simp only [List.mem_singleton] at hb
  subst hb
  exact ⟨Nat.le_refl _, by simp, thaw_new⟩
 ·exact VEs.set hfl (hv.mono ((Ext.refl w).alloc _))
theorem R_box {t : TypeId} {x : Operand} {A0 : A} (id : Nat) (ho : o.op = .box t x) (hg : o.guard = none) (hd : o.dst.all (fun d => Nat.blt d σ.n) = true) (hx : Get σ true x A0) (he : (cellsA A0).all E.cell1 = true) (hf : σ.has id = false) (hfl : (cellsA A0).any (E.has id) = false) :
  Op1 P ops o σ ((σ.add id (.box (cellsA A0))).put o.dst (true, .a (.one (.pp id 0)))) :=
 .eff hg fun w0 a w ⟨I, hr⟩ => by
  obtain ⟨cs, h1, h2, h3⟩ := (hx.va hr rfl).cells he
  have hb := hr.box (id := id) (t := t) hf hfl h2
  refine ⟨.pointer (some ⟨w.heap.size, 0, none⟩), w.alloc (.cells cs.toArray t), by simp [execOp, ho, Instr.box, newVar, newRow, h1], _, hb.put hd ?_⟩
  show Value.pointer _ = Value.pointer _
  simp [Ip.set]
theorem VEs_vals {I : Ip} {w : World} : ∀ {zs : List Value}, zs.all Value.oneCell' = true → VEs I w (zs.map fun v => .t (.v v)) zs
 | [], _ => rfl
 | z :: zs, h => by
  simp only [List.all_cons, Bool.and_eq_true] at h
  exact ⟨z, zs, rfl, ⟨[], by unfold C; exact ⟨rfl, rfl, h.1⟩, by simp⟩, VEs_vals h.2⟩
theorem has_vals (id : Nat) : ∀ (zs : List Value), (zs.map fun v => E.t (.v v)).any (E.has id) = false
 | [] => rfl
 | z :: zs => by simp [E.has]
theorem R_alloc {t : TypeId} {z : Value} {n by_ : Nat} {zs : List Value} (id : Nat) (ho : o.op = .alloc t) (hg : o.guard = none) (hd : o.dst.all (fun d => Nat.blt d σ.n) = true) (hi : (P.info? t).map (fun i => (i.zero, i.size, i.bytes)) = some (some z, n, by_)) (hz : z.cells = zs.toArray)
  (h1 : zs.all Value.oneCell' = true) (hf : σ.has id = false) :
  Op1 P ops o σ ((σ.add id (.box (zs.map fun v => .t (.v v)))).put o.dst (true, .a (.one (.pp id 0)))) :=
 .eff hg fun w0 a w ⟨I, hr⟩ => by
  obtain ⟨i, hi1, hi2, _, _⟩ := info_parts hi
  have hb := hr.box (id := id) (t := t) hf (has_vals id zs) (VEs_vals h1)
  refine ⟨.pointer (some ⟨w.heap.size, 0, none⟩), w.alloc (.cells zs.toArray t), by simp [execOp, ho, Instr.alloc, zeroValue, typeInfo, hi1, hi2, newVar, newRow, hz], _, hb.put hd ?_⟩
  show Value.pointer _ = Value.pointer _
  simp [Ip.set]
theorem R_load_pp {id p : Nat} {t : TypeId} {x : Operand} {cs : List E} {ag : Bool} {n : Nat} (ho : o.op = .load t x) (hg : Grd ops o σ q) (hd : o.dst.all (fun d => Nat.blt d σ.n) = true) (hx : Get σ q x (.one (.pp id p))) (hs : look σ.res id = some (.box cs)) (ht : tyB P t ag n = true)
  (hn : Nat.ble (p + n) cs.length = true) (h1 : (ag || Nat.beq n 1) = true) : Op1 P ops o σ (σ.put o.dst (q, .a (mkA ag ((cs.drop p).take n)))) :=
 .val hg hd fun I w0 a w hr hq => by
  have hv : a.eval x = .pointer (some ⟨I.B id, p, none⟩) := hx.va hr hq
  obtain ⟨hF, vs, ty, g1, g2⟩ := hr.res id _ hs
  have g3 := VEs_take n (VEs_drop p g2)
  have hn' := Nat.le_of_ble_eq_true hn
  have hl := VEs_len g2
  have h1' : ag = false → n = 1 := fun e => by rw [e] at h1; exact Nat.eq_of_beq_eq_true (by simpa using h1)
  have hc : ∀ (j : Nat) (u : Value), ((vs.drop p).take n)[j]? = some u → w.cell? ⟨I.B id, p + j, none⟩ = some u := by
   intro j u hj
   rw [List.getElem?_take] at hj
   split at hj
   ·rw [List.getElem?_drop] at hj; simp [World.cell?, g1, hj]
   ·cases hj
  exact ⟨_, by simp [execOp, ho, hv, run_load ht (cs := (vs.drop p).take n) (by simp; omega) h1' hc], VA_mk g3 fun e => by have := h1' e; simp; omega⟩
theorem R_load_pr {id k i p : Nat} {t : TypeId} {x : Operand} {rows : List (List T)} {row : List T} {ag : Bool} {n : Nat} (ho : o.op = .load t x) (hg : Grd ops o σ q) (hd : o.dst.all (fun d => Nat.blt d σ.n) = true) (hx : Get σ q x (.one (.pr id k i p))) (hs : look σ.res id = some (.row k rows)) (hi : rows[i]? = some row) (ht : tyB P t ag n = true)
  (hn : Nat.ble (p + n) row.length = true) (h1 : (ag || Nat.beq n 1) = true) : Op1 P ops o σ (σ.put o.dst (q, .a (mkA ag (((row.drop p).take n).map (toE id))))) :=
 .val hg hd fun I w0 a w hr hq => by
  obtain ⟨g, n', m', hg1, hv⟩ : VE I w (.pr id k i p) (a.eval x) := hx.va hr hq
  have hC : C true w (.sl k rows) _ _ := hr.res id _ hs
  simp only [C] at hC
  obtain ⟨a0, len, cap, g1, g2, g3, g4, g5⟩ := hC
  have hlt : i < rows.length := (List.getElem?_eq_some_iff.1 hi).1
  have hn' := Nat.le_of_ble_eq_true hn
  have h1' : ag = false → n = 1 := fun e => by rw [e] at h1; exact Nat.eq_of_beq_eq_true (by simpa using h1)
  rcases g5 with ⟨g5, _⟩ | ⟨b, off, G, rfl, hF, g6, g7, g8⟩
  ·omega
  ·obtain ⟨rfl, cur, e, _⟩ := g7 trivial
   rw [hg1] at g1
   cases g1
   obtain ⟨G', k1, k2, k3⟩ := g8.get hi
   obtain ⟨G1, k4, k5⟩ := k1.drop p
   obtain ⟨G2, k6, k7⟩ := k4.take n
   obtain ⟨vs, k8, k9, k10⟩ := Ms.cells k6
   have hl : ((row.drop p).take n).length = n := by simp; omega
   have hc : ∀ (j : Nat) (u : Value), vs[j]? = some u → w.cell? ⟨g, i * k + p + j, none⟩ = some u := fun j u hj => by have := k10 j u hj; simpa using this
   refine ⟨_, by simp [execOp, ho, hv, run_load ht (cs := vs) (by rw [k9, hl]) h1' hc], VA_mk (Cs_vw k8.read fun x hx => ?_) fun e => by have := h1' e; rw [List.length_map, hl]; exact this⟩
   rw [hF]; simp [k3 x (k5 x (k7 x hx))]
def setL (cs : List E) (p : Nat) (l : List E) : List E := cs.take p ++ l ++ cs.drop (p + l.length)
theorem VEs_append {I : Ip} {w : World} : ∀ {l m : List E} {cs ds : List Value}, VEs I w l cs → VEs I w m ds → VEs I w (l ++ m) (cs ++ ds)
 | [], m, cs, ds, h, h' => by simp only [VEs] at h; subst h; exact h'
 | e :: l, m, cs, ds, h, h' => by obtain ⟨c, cr, rfl, h1, h2⟩ := h; exact ⟨c, cr ++ ds, rfl, h1, VEs_append h2 h'⟩
def partsE : List (Nat × List E) → List E → List E
 | [], cs => cs
 | (p, l) :: r, cs => partsE r (setL cs p l)
inductive Parts (P : Program) (σ : St) (t : TypeId) : List (Nat × Operand) → List (Nat × List E) → Prop where
 | nil : Parts P σ t [] []
 | cons {j off n : Nat} {x : Operand} {A0 : A} {r : List (Nat × Operand)} {r' : List (Nat × List E)} (hx : Get σ true x A0) (he : (cellsA A0).all E.cell1 = true) (hn : Nat.beq (cellsA A0).length n = true) (hf : (match P.underlying t with | some (.struct fs) => (match fs[j]? with | some f => Nat.beq f.offset off && (match P.info? f.type with | some i => Nat.beq i.size n | none => false) | none => false) | _ => false) = true) (h : Parts P σ t r r') : Parts P σ t ((j, x) :: r) ((off, cellsA A0) :: r')
theorem foldl_setAll (p : Nat) : ∀ (ds : List Value) (k : Nat) (cs : List Value), ((ds.zipIdx k).foldl (fun (acc : Array Value) x => acc.setIfInBounds (p + x.2) x.1) cs.toArray) = (setAll cs (p + k) ds).toArray
 | [], k, cs => by simp [setAll]
 | d :: ds, k, cs => by
  simp only [List.zipIdx_cons, List.foldl_cons, List.setIfInBounds_toArray]
  rw [foldl_setAll p ds (k + 1), setAll, Nat.add_assoc]
theorem foldl_set (p : Nat) (ds cs : List Value) (h : p + ds.length ≤ cs.length) :
  ((ds.zipIdx 0).foldl (fun (acc : Array Value) x => acc.setIfInBounds (p + x.2) x.1) cs.toArray) = (cs.take p ++ ds ++ cs.drop (p + ds.length)).toArray := by
 rw [foldl_setAll p ds 0 cs, Nat.add_zero]
 have e : cs = cs.take p ++ ((cs.drop p).take ds.length ++ cs.drop (p + ds.length)) := by
  rw [← List.drop_drop, List.take_append_drop, List.take_append_drop]
 have hl : (cs.take p).length = p := by simp; omega
 have := setAll_mid ds (cs.take p) ((cs.drop p).take ds.length) (cs.drop (p + ds.length)) (by simp; omega)
 rw [← e, hl] at this
 rw [this, List.append_assoc]
theorem run_fill {I : Ip} {w0 : Base} {w : World} {a : Act} (hr : RelI I w0 σ a w) {t : TypeId} {fs : Array Field} (hu : P.underlying t = some (.struct fs)) {pl : Array (Nat × Nat)}
  (hpl : ∀ (j : Nat) (f : Field), fs[j]? = some f → ∃ i, P.info? f.type = some i ∧ pl[j]? = some (f.offset, i.size)) : ∀ {ps : List (Nat × Operand)} {ds : List (Nat × List E)} {l : List E} {cs : List Value}, Parts P σ t ps ds → VEs I w l cs → (ds.all fun x => Nat.ble (x.1 + x.2.length) l.length) = true →
  ∃ cs', Instr.fill (fun i => pl[i]?) cs.toArray (ps.map fun x => (x.1, a.eval x.2)) = some (List.toArray cs') ∧ VEs I w (partsE ds l) cs'
 | [], ds, l, cs, hp, hv, _ => by cases hp; exact ⟨cs, rfl, hv⟩
 | (j, x) :: ps, ds, l, cs, hp, hv, hb => by
  cases hp with
  | cons hx he hn hf h =>
   rename_i off n A0 r'
   rw [hu] at hf
   simp only at hf
   split at hf
   ·rename_i f hf1
    simp only [Bool.and_eq_true] at hf
    obtain ⟨i, hi1, hi2⟩ := hpl j f hf1
    rw [hi1] at hf
    have e1 := Nat.eq_of_beq_eq_true hf.1
    have e2 := Nat.eq_of_beq_eq_true hf.2
    have e3 := Nat.eq_of_beq_eq_true hn
    obtain ⟨xs, h1, h2, h3⟩ := (hx.va hr rfl).cells he
    have e4 := VEs_len h2
    have e5 := VEs_len hv
    simp only [List.all_cons, Bool.and_eq_true] at hb
    have hb1 := Nat.le_of_ble_eq_true hb.1
    have hlen : (setL l off (cellsA A0)).length = l.length := by simp [setL]; omega
    obtain ⟨cs', g1, g2⟩ := run_fill hr hu hpl (ps := ps) (l := setL l off (cellsA A0)) (cs := cs.take off ++ xs ++ cs.drop (off + xs.length)) h (by rw [setL, ← e4]; exact VEs_append (VEs_append (VEs_take off hv) h2) (VEs_drop _ hv)) (by rw [hlen]; exact hb.2)
    refine ⟨cs', ?_, g2⟩
    have hfo := foldl_set off xs cs (by omega)
    simp only [List.map_cons, Instr.fill, hi2, e1, h1]
    rw [if_neg (by simp; omega)]
    rw [← g1, ← hfo]
    congr 1
    simp
   ·cases hf
theorem run_fmap {α β : Type} (f : α → β) (s : Sem α) (w : World) : (Functor.map f s).run P w = (s.run P w).andThen fun a w' => .ok (f a) w' := by
 rw [map_eq_pure_bind]; simp
theorem R_build {t : TypeId} {ps : List (Nat × Operand)} {z : Value} {n by_ : Nat} {zs : List Value} {ds : List (Nat × List E)} (ho : o.op = .build t ps.toArray) (hg : o.guard = none) (hd : o.dst.all (fun d => Nat.blt d σ.n) = true) (hi : (P.info? t).map (fun i => (i.zero, i.size, i.bytes)) = some (some z, n, by_)) (hz : z.cells = zs.toArray)
  (h1 : zs.all Value.oneCell' = true) (hS : (match P.underlying t with | some (.struct fs) => fs.all (fun f => (P.info? f.type).isSome) | _ => false) = true) (hp : Parts P σ t ps ds) (hb : (ds.all fun x => Nat.ble (x.1 + x.2.length) zs.length) = true) :
  Op1 P ops o σ (σ.put o.dst (true, .a (.agg (partsE ds (zs.map fun v => .t (.v v)))))) :=
 .eff hg fun w0 a w ⟨I, hr⟩ => by
  obtain ⟨i, hi1, hi2, _, _⟩ := info_parts hi
  split at hS
  ·rename_i fs hu
   have hm : ∀ (l : List Field), (∀ f ∈ l, (P.info? f.type).isSome = true) → (l.mapM fun f => Functor.map (Prod.mk f.offset) (sizeOf f.type) : Sem (List (Nat × Nat))).run P w = .ok (l.map fun f => (f.offset, P.cellsOf f.type)) w := by
    intro l
    induction l with
    | nil => intro _; rfl
    | cons f l ih =>
     intro hl
     have hf := hl f (by simp)
     obtain ⟨fi, hfi⟩ := Option.isSome_iff_exists.1 hf
     have hs : (sizeOf f.type).run P w = .ok (P.cellsOf f.type) w := run_sizeOf _ hfi
     rw [List.mapM_cons]
     simp only [map_eq_pure_bind, Sem.run_bind, hs, Result.andThen_ok, Sem.run_pure] at ih ⊢
     simp only [ih (fun g hg => hl g (by simp [hg])), Result.andThen_ok, List.map_cons]
   have hall : ∀ f ∈ fs.toList, (P.info? f.type).isSome = true := by
    intro f hf
    have := Array.all_eq_true_iff_forall_mem.1 hS f (by simpa using hf)
    simpa using this
   obtain ⟨cs', g1, g2⟩ := run_fill hr hu (pl := (fs.toList.map fun f => (f.offset, P.cellsOf f.type)).toArray) (fun j f hj => by
    have hmem : f ∈ fs.toList := by simpa using Array.mem_of_getElem? hj
    obtain ⟨fi, hfi⟩ := Option.isSome_iff_exists.1 (hall f hmem)
    refine ⟨fi, hfi, ?_⟩
    have e : P.cellsOf f.type = fi.size := by simp [Program.cellsOf, hfi]
    simp [hj, e]) hp (VEs_vals h1) (by simpa using hb)
   refine ⟨.agg cs'.toArray, w, ?_, I, hr.put hd ⟨cs', rfl, g2⟩⟩
   have hma : (fs.mapM fun f => Functor.map (Prod.mk f.offset) (sizeOf f.type) : Sem (Array (Nat × Nat))).run P w = .ok (fs.toList.map fun f => (f.offset, P.cellsOf f.type)).toArray w := by
    rw [Array.mapM_eq_mapM_toList, run_fmap, hm _ hall]
    rfl
   simp [execOp, ho, Instr.build, zeroValue, typeInfo, hi1, hi2, run_underlying hu, hma, hz]
   have e : (fun (x : Nat) => Option.map (fun f => (f.offset, P.cellsOf f.type)) fs[x]?) = fun (i : Nat) => (List.map (fun f => (f.offset, P.cellsOf f.type)) fs.toList).toArray[i]? := by funext x; simp
   rw [e, g1]
   simp
  ·cases hS
end
end Go.Q
