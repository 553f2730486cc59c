import Derived.Test.YtoealglkenhphaaGreatAbsJxb
set_option linter.unusedVariables false
set_option linter.unusedSimpArgs false
namespace Go.Q
open Go.RowKit
section
variable {P : Program} {ops : Array Oper} {o : Oper} {σ : St} {q : Bool}
structure Eff where
 d : Nat
 x : Bool × S
 o : Option (Nat × R)
 ch : Bool
 ad : List (Nat × R)
def Eff.run (y : Eff) (σ : St) : St := match y.o with
 | some (id, r) => bif y.ch then ⟨σ.n, (y.d, y.x) :: (σ.pur id).slots, (id, r) :: (σ.pur id).res⟩ else ⟨σ.n, (y.d, y.x) :: σ.slots, (id, r) :: σ.res⟩
 | none => ⟨σ.n, (y.d, y.x) :: σ.slots, addsR y.ad σ.res⟩
theorem Eff.run_n (y : Eff) (σ : St) : (y.run σ).n = σ.n := by
 unfold Eff.run
 split
 ·cases y.ch <;> rfl
 ·rfl
def Eff.has (y : Eff) (id : Nat) : Bool := y.x.2.has id || match y.o with | some (j, r) => Nat.beq j id || r.has id | none => y.ad.any fun z => Nat.beq z.1 id || z.2.has id
def LocK (P : Program) (ops : Array Oper) (o : Oper) (σ : St) (y : Eff) : Prop := ∀ σ', Sup σ σ' → (∀ id r, y.o = some (id, r) → y.ch = false → σ'.has id = false) → (y.o = none → ∀ z ∈ y.ad, σ'.has z.1 = false) → Op1 P ops o σ' (y.run σ')
theorem Op1.look {σ' σ2 : St} (h : Op1 P ops o σ σ') (hn : σ2.n = σ'.n) (hs : ∀ i x, look σ2.slots i = some x → look σ'.slots i = some x) (hr : ∀ i x, look σ2.res i = some x → look σ'.res i = some x) : Op1 P ops o σ σ2 := fun w0 a w hr0 K Q hK =>
 h w0 a w hr0 K Q fun a' w' h' => hK a' w' (Rel.of_look h' hn hs hr)
theorem LocK.of {d : Nat} {x : Bool × S} (hd : o.dst = some d) (h : ∀ σ', Sup σ σ' → Op1 P ops o σ' (σ'.put o.dst x)) : LocK P ops o σ ⟨d, x, none, false, []⟩ := fun σ' hs _ _ => by
 have := h σ' hs
 rw [hd] at this
 exact this
theorem LocK.of1 {d id : Nat} {r : R} {x : Bool × S} (hd : o.dst = some d) (h : ∀ σ', Sup σ σ' → σ'.has id = false → Op1 P ops o σ' ((σ'.add id r).put o.dst x)) : LocK P ops o σ ⟨d, x, some (id, r), false, []⟩ := fun σ' hs hf _ => by
 have := h σ' hs (hf id r rfl rfl)
 rw [hd] at this
 exact this
theorem LocK.ofs {d : Nat} {rl : List (Nat × R)} {x : Bool × S} (hd : o.dst = some d) (h : ∀ σ', Sup σ σ' → (∀ z ∈ rl, σ'.has z.1 = false) → Op1 P ops o σ' ((σ'.adds rl).put o.dst x)) : LocK P ops o σ ⟨d, x, none, false, rl⟩ := fun σ' hs _ hf => by
 have := h σ' hs (hf rfl)
 rw [hd, adds_eq] at this
 exact this
theorem mem_addsR {x : Nat × R} : ∀ {l rs : List (Nat × R)}, x ∈ addsR l rs → x ∈ l ∨ x ∈ rs
 | [], _, h => .inr h
 | y :: l, rs, h => by
  rcases mem_addsR (l := l) h with h | h
  ·exact .inl (List.mem_cons_of_mem _ h)
  ·rcases List.mem_cons.1 h with rfl | h
   ·exact .inl (by simp)
   ·exact .inr h
theorem look_addsK {t : Nat} {x : R} : ∀ {l rs : List (Nat × R)}, look (addsR l rs) t = some x → (t, x) ∈ l ∨ look rs t = some x
 | [], _, h => .inr h
 | (i, r) :: l, rs, h => by
  rcases look_addsK (l := l) h with h | h
  ·exact .inl (List.mem_cons_of_mem _ h)
  ·rw [look_cons] at h
   by_cases e : i = t
   ·rw [if_pos e] at h; cases h; subst e; exact .inl (by simp)
   ·rw [if_neg e] at h; exact .inr h
theorem look_addsR_ne {t : Nat} : ∀ {l rs : List (Nat × R)}, (∀ z ∈ l, z.1 ≠ t) → look (addsR l rs) t = look rs t
 | [], _, _ => rfl
 | (i, r) :: l, rs, h => by
  rw [addsR, look_addsR_ne fun z hz => h z (by simp [hz]), look_cons, if_neg (h (i, r) (by simp))]
theorem look_addsR_in {t : Nat} {x : R} : ∀ {l rs : List (Nat × R)}, disN (l.map (·.1)) = true → (t, x) ∈ l → look (addsR l rs) t = some x
 | (i, r) :: l, rs, hd, h => by
  simp only [List.map_cons, disN, Bool.and_eq_true, List.all_map, List.all_eq_true] at hd
  rw [addsR]
  rcases List.mem_cons.1 h with e | h
  ·cases e
   rw [look_addsR_ne fun z hz e => by have := hd.1 z hz; simp [e] at this, look_cons, if_pos rfl]
  ·exact look_addsR_in hd.2 h
theorem setR_self {l : List (Nat × R)} {id : Nat} {r y : R} (h : look l id = some y) : look (setR l id r) id = some r := by
 induction l with
 | nil => cases h
 | cons z l ih =>
  obtain ⟨j, z⟩ := z
  rw [setR]
  by_cases e : j = id
  ·subst e; simp only [Nat.beq_refl, cond_true]; rw [look_cons, if_pos rfl]
  ·rw [beq_ff e, cond_false, look_cons, if_neg e]
   rw [look_cons, if_neg e] at h
   exact ih h
theorem setR_ne {l : List (Nat × R)} {id i : Nat} {r : R} (h : i ≠ id) : look (setR l id r) i = look l i := by
 induction l with
 | nil => rfl
 | cons z l ih =>
  obtain ⟨j, z⟩ := z
  rw [setR]
  by_cases e : j = id
  ·subst e; simp only [Nat.beq_refl, cond_true]; rw [look_cons, look_cons, if_neg (fun e => h e.symm), if_neg (fun e => h e.symm)]
  ·rw [beq_ff e, cond_false, look_cons, look_cons, ih]
theorem LocK.ofc {d id : Nat} {r r0 : R} {x : Bool × S} (hd : o.dst = some d) (h0 : look σ.res id = some r0) (h : ∀ σ', Sup σ σ' → Op1 P ops o σ' ((σ'.chg id r).put o.dst x)) : LocK P ops o σ ⟨d, x, some (id, r), true, []⟩ := fun σ' hs _ _ => by
 have := h σ' hs
 rw [hd] at this
 refine this.look rfl (fun i x h => h) fun i x hx => ?_
 have hx : look ((id, r) :: (σ'.pur id).res) i = some x := hx
 show look (setR (σ'.pur id).res id r) i = some x
 rw [look_cons] at hx
 by_cases e : id = i
 ·subst e
  rw [if_pos rfl] at hx
  rw [← hx]
  have h1 : look (σ'.pur id).res id = (look σ'.res id).map (R.pur id) := look_map (R.pur id) _ _
  rw [hs.res _ _ h0] at h1
  exact setR_self h1
 ·rw [if_neg e] at hx
  rw [setR_ne (fun e' => e e'.symm)]; exact hx
def runR (ys : List Eff) : List Nat → St → St
 | [], σ => σ
 | i :: π, σ => match ys[i]? with | some y => y.run (runR ys π σ) | none => runR ys π σ
inductive Vd (B : Nat → List Nat) (N : Nat) : List Nat → Prop where
 | nil : Vd B N []
 | cons {i : Nat} {π : List Nat} (h : Vd B N π) (hB : ∀ j ∈ B i, j ∈ π) (hi : i ∉ π) (hN : i < N) : Vd B N (i :: π)
theorem Vd.closed {B : Nat → List Nat} {N : Nat} {π : List Nat} (h : Vd B N π) : ∀ b ∈ π, ∀ j ∈ B b, j ∈ π := by
 induction h with
 | nil => intro b hb; cases hb
 | cons h hB hi hN ih =>
  intro b hb j hj
  rcases List.mem_cons.1 hb with rfl | hb
  ·exact List.mem_cons_of_mem _ (hB j hj)
  ·exact List.mem_cons_of_mem _ (ih b hb j hj)
def chs : Nat → List Eff → List (Nat × Nat)
 | _, [] => []
 | k, y :: r => match y.o with
  | some (id, _) => bif y.ch then (k, id) :: chs (k + 1) r else chs (k + 1) r
  | none => chs (k + 1) r
theorem chs_mem : ∀ {ys : List Eff} {k b : Nat} {y : Eff} {id : Nat} {r : R}, ys[b]? = some y → y.o = some (id, r) → y.ch = true → (k + b, id) ∈ chs k ys
 | [], _, b, _, _, _, h, _, _ => by simp at h
 | z :: ys, k, 0, y, id, r, h, h1, h2 => by
  simp at h
  subst h
  rw [chs, h1]
  simp [h2]
 | z :: ys, k, b + 1, y, id, r, h, h1, h2 => by
  have := chs_mem (k := k + 1) (ys := ys) (b := b) (by simpa using h) h1 h2
  rw [show k + 1 + b = k + (b + 1) by omega] at this
  rw [chs]
  split
  ·cases z.ch
   ·exact this
   ·exact List.mem_cons_of_mem _ this
  ·exact this
theorem E.pur_has {id : Nat} {e : E} (h : e.has id = false) : e.pur id = e := by
 cases e <;> simp_all [E.has, E.pur]
theorem map_pur {id : Nat} : ∀ {l : List E}, l.any (E.has id) = false → l.map (E.pur id) = l
 | [], _ => rfl
 | e :: l, h => by
  simp only [List.any_cons, Bool.or_eq_false_iff] at h
  rw [List.map_cons, E.pur_has h.1, map_pur h.2]
theorem A.pur_has {id : Nat} {x : A} (h : x.has id = false) : x.pur id = x := by
 cases x with
 | one e => simp only [A.pur]; rw [E.pur_has h]
 | agg l => simp only [A.pur]; rw [map_pur h]
theorem S.pur_has {id : Nat} {x : S} (h : x.has id = false) : x.pur id = x := by
 cases x with
 | a x => simp only [S.pur]; rw [A.pur_has h]
 | tup l =>
  simp only [S.pur]
  have key : ∀ l : List A, l.any (A.has id) = false → l.map (A.pur id) = l := by
   intro l
   induction l with
   | nil => intro _; rfl
   | cons e l ih => intro h; simp only [List.any_cons, Bool.or_eq_false_iff] at h; rw [List.map_cons, A.pur_has h.1, ih h.2]
  rw [key l h]
theorem R.pur_has {id : Nat} {x : R} (h : x.has id = false) : x.pur id = x := by
 cases x with
 | row k rows => rfl
 | box cs => simp only [R.pur]; rw [map_pur h]
 | hdr j x =>
  cases j with
  | none => rfl
  | some j => simp only [R.has] at h; simp only [R.pur, h, cond_false]
theorem E.has_pur {id j : Nat} {e : E} (h : e.has id = false) : (e.pur j).has id = false := by
 cases e with
 | t x => rfl
 | rf i => simp only [E.pur]; cases Nat.beq i j; exact h; rfl
 | vw i x => simp only [E.pur]; cases Nat.beq i j; exact h; rfl
 | pp i o => exact h
 | pr i k a b => simp only [E.pur]; cases Nat.beq i j; exact h; rfl
 | sb i k a b => simp only [E.pur]; cases Nat.beq i j; exact h; rfl
 | tl i k a => simp only [E.pur]; cases Nat.beq i j; exact h; rfl
 | pf i k a => simp only [E.pur]; cases Nat.beq i j; exact h; rfl
 | no => rfl
theorem any_pur {id j : Nat} : ∀ {l : List E}, l.any (E.has id) = false → (l.map (E.pur j)).any (E.has id) = false
 | [], _ => rfl
 | e :: l, h => by
  simp only [List.any_cons, Bool.or_eq_false_iff, List.map_cons] at h ⊢
  exact ⟨E.has_pur h.1, any_pur h.2⟩
theorem A.has_pur {id j : Nat} {x : A} (h : x.has id = false) : (x.pur j).has id = false := by
 cases x with
 | one e => exact E.has_pur h
 | agg l => exact any_pur h
theorem S.has_pur {id j : Nat} {x : S} (h : x.has id = false) : (x.pur j).has id = false := by
 cases x with
 | a x => exact A.has_pur h
 | tup l =>
  have key : ∀ l : List A, l.any (A.has id) = false → (l.map (A.pur j)).any (A.has id) = false := by
   intro l
   induction l with
   | nil => intro _; rfl
   | cons e l ih => intro h; simp only [List.any_cons, Bool.or_eq_false_iff, List.map_cons] at h ⊢; exact ⟨A.has_pur h.1, ih h.2⟩
  exact key l h
theorem R.has_pur {id j : Nat} {x : R} (h : x.has id = false) : (x.pur j).has id = false := by
 cases x with
 | row k rows => rfl
 | box cs => exact any_pur h
 | hdr i x =>
  cases i with
  | none => rfl
  | some i => simp only [R.has] at h; simp only [R.pur]; cases Nat.beq i j <;> simp [R.has, h]
theorem St.has_iff {σ : St} {id : Nat} : σ.has id = false ↔ (∀ x ∈ σ.slots, x.2.2.has id = false) ∧ ∀ x ∈ σ.res, Nat.beq x.1 id = false ∧ x.2.has id = false := by
 simp only [St.has, Bool.or_eq_false_iff, List.any_eq_false, Bool.or_eq_true, not_or, Bool.not_eq_true]
theorem run_has {y : Eff} {σ : St} {id : Nat} (h : σ.has id = false) (hy : y.has id = false) : (y.run σ).has id = false := by
 unfold Eff.has at hy
 simp only [Bool.or_eq_false_iff] at hy
 obtain ⟨h1, h2⟩ := St.has_iff.1 h
 have hp : ∀ j, (∀ x ∈ (σ.pur j).slots, x.2.2.has id = false) ∧ ∀ x ∈ (σ.pur j).res, Nat.beq x.1 id = false ∧ x.2.has id = false := fun j => by
  refine ⟨fun x hx => ?_, fun x hx => ?_⟩
  ·obtain ⟨z, hz, rfl⟩ := List.mem_map.1 hx
   exact S.has_pur (h1 z hz)
  ·obtain ⟨z, hz, rfl⟩ := List.mem_map.1 hx
   exact ⟨(h2 z hz).1, R.has_pur (h2 z hz).2⟩
 unfold Eff.run
 split
 ·rename_i j r ho
  rw [ho] at hy
  simp only [Bool.or_eq_false_iff] at hy
  cases y.ch with
  | false =>
   refine St.has_iff.2 ⟨fun x hx => ?_, fun x hx => ?_⟩
   ·rcases List.mem_cons.1 hx with rfl | hx
    ·exact hy.1
    ·exact h1 x hx
   ·rcases List.mem_cons.1 hx with rfl | hx
    ·exact hy.2
    ·exact h2 x hx
  | true =>
   refine St.has_iff.2 ⟨fun x hx => ?_, fun x hx => ?_⟩
   ·rcases List.mem_cons.1 hx with rfl | hx
    ·exact hy.1
    ·exact (hp j).1 x hx
   ·rcases List.mem_cons.1 hx with rfl | hx
    ·exact hy.2
    ·exact (hp j).2 x hx
 ·rename_i ho
  rw [ho] at hy
  refine St.has_iff.2 ⟨fun x hx => ?_, fun x hx => ?_⟩
  ·rcases List.mem_cons.1 hx with rfl | hx
   ·exact hy.1
   ·exact h1 x hx
  ·rcases mem_addsR hx with hx | hx
   ·have := List.any_eq_false.1 hy.2 x hx
    simpa only [Bool.or_eq_true, not_or, Bool.not_eq_true] using this
   ·exact h2 x hx
theorem runR_n (ys : List Eff) : ∀ (π : List Nat) (σ : St), (runR ys π σ).n = σ.n
 | [], _ => rfl
 | i :: π, σ => by
  rw [runR]
  split
  ·rw [Eff.run_n, runR_n ys π]
  ·exact runR_n ys π σ
theorem runR_has {ys : List Eff} {id : Nat} : ∀ {π : List Nat} {σ : St}, σ.has id = false → (∀ b ∈ π, ∀ y, ys[b]? = some y → y.has id = false) → (runR ys π σ).has id = false
 | [], _, h, _ => h
 | i :: π, σ, h, h' => by
  rw [runR]
  have ih := runR_has (π := π) h fun b hb => h' b (by simp [hb])
  split
  ·rename_i y hy
   exact run_has ih (h' i (by simp) y hy)
  ·exact ih
section
variable {ys : List Eff} {B : Nat → List Nat} {N : Nat}
theorem run_slot (hd : ∀ (i j : Nat) (y z : Eff), ys[i]? = some y → ys[j]? = some z → y.d = z.d → i = j) {π : List Nat} (hV : Vd B N π) :
  ∀ {b : Nat} {y : Eff}, b ∈ π → ys[b]? = some y → (∀ c ∈ chs 0 ys, c.1 ∈ π → y.x.2.has c.2 = true → c.1 = b ∨ c.1 ∈ B b) → look (runR ys π σ).slots y.d = some y.x := by
 induction hV with
 | nil => intro b y hb; cases hb
 | @cons i π h hB hi hN ih =>
  intro b y hb hy hc
  rw [runR]
  by_cases e : b = i
  ·subst e
   rw [hy]
   unfold Eff.run
   simp only
   split
   ·cases y.ch <;> (show look ((y.d, y.x) :: _) y.d = _; rw [look_cons, if_pos rfl])
   ·show look ((y.d, y.x) :: _) y.d = _; rw [look_cons, if_pos rfl]
  ·have hbp : b ∈ π := by rcases List.mem_cons.1 hb with h1 | h1; exact absurd h1 e; exact h1
   have ih' := ih hbp hy fun c hcm hcp hch => hc c hcm (by simp [hcp]) hch
   split
   ·rename_i z hz
    have hne : z.d ≠ y.d := fun he => e (hd b i y z hy hz he.symm)
    unfold Eff.run
    split
    ·rename_i id r ho
     cases hch : z.ch with
     | false => show look ((z.d, z.x) :: _) y.d = _; rw [look_cons, if_neg hne]; exact ih'
     | true =>
      show look ((z.d, z.x) :: (St.pur _ id).slots) y.d = _
      rw [look_cons, if_neg hne]
      have h1 : look (St.pur (runR ys π σ) id).slots y.d = (look (runR ys π σ).slots y.d).map fun x => (x.1, x.2.pur id) := look_map (fun x : Bool × S => (x.1, x.2.pur id)) _ _
      rw [h1, ih']
      have hhas : y.x.2.has id = false := by
       cases hh : y.x.2.has id with
       | false => rfl
       | true =>
        have hm := chs_mem (k := 0) hz ho hch
        rw [Nat.zero_add] at hm
        rcases hc _ hm (by simp) hh with h2 | h2
        ·exact absurd h2.symm e
        ·exact absurd (h.closed b hbp i h2) hi
      simp only [Option.map_some, S.pur_has hhas]
    ·show look ((z.d, z.x) :: _) y.d = _; rw [look_cons, if_neg hne]; exact ih'
   ·exact ih'
theorem run_slot0 {π : List Nat} : ∀ {t : Nat} {x : Bool × S}, look σ.slots t = some x → (∀ b ∈ π, ∀ y, ys[b]? = some y → y.d ≠ t) → (∀ c ∈ chs 0 ys, c.1 ∈ π → x.2.has c.2 = false) → look (runR ys π σ).slots t = some x := by
 induction π with
 | nil => intro t x h _ _; exact h
 | cons i π ih =>
  intro t x h hd hc
  have ih' := ih h (fun b hb => hd b (by simp [hb])) fun c hcm hcp => hc c hcm (by simp [hcp])
  rw [runR]
  split
  ·rename_i z hz
   have hne : z.d ≠ t := hd i (by simp) z hz
   unfold Eff.run
   split
   ·rename_i id r ho
    cases hch : z.ch with
    | false => show look ((z.d, z.x) :: _) t = _; rw [look_cons, if_neg hne]; exact ih'
    | true =>
     show look ((z.d, z.x) :: (St.pur _ id).slots) t = _
     rw [look_cons, if_neg hne]
     have h1 : look (St.pur (runR ys π σ) id).slots t = (look (runR ys π σ).slots t).map fun x => (x.1, x.2.pur id) := look_map (fun x : Bool × S => (x.1, x.2.pur id)) _ _
     have hm := chs_mem (k := 0) hz ho hch
     rw [Nat.zero_add] at hm
     rw [h1, ih']
     simp only [Option.map_some, S.pur_has (hc _ hm (by simp))]
   ·show look ((z.d, z.x) :: _) t = _; rw [look_cons, if_neg hne]; exact ih'
  ·exact ih'
theorem run_res (hu : ∀ (i j : Nat) (y z : Eff) (id : Nat) (r r' : R), ys[i]? = some y → ys[j]? = some z → y.o = some (id, r) → z.o = some (id, r') → z.ch = false → i = j ∨ j ∈ B i) (ha : ∀ (i j : Nat) (y z : Eff) (id : Nat), i ≠ j → ys[i]? = some y → ys[j]? = some z → y.has id = true → z.o = none → id ∈ z.ad.map (·.1) → j ∈ B i) {π : List Nat} (hV : Vd B N π) :
  ∀ {b : Nat} {y : Eff} {id : Nat} {r : R}, b ∈ π → ys[b]? = some y → y.o = some (id, r) → (∀ c ∈ chs 0 ys, c.1 ∈ π → (Nat.beq id c.2 || r.has c.2) = true → c.1 = b ∨ c.1 ∈ B b) → look (runR ys π σ).res id = some r := by
 induction hV with
 | nil => intro b y id r hb; cases hb
 | @cons i π h hB hi hN ih =>
  intro b y id r hb hy ho hc
  rw [runR]
  by_cases e : b = i
  ·subst e
   rw [hy]
   unfold Eff.run
   simp only [ho]
   cases y.ch <;> (show look ((id, r) :: _) id = _; rw [look_cons, if_pos rfl])
  ·have hbp : b ∈ π := by rcases List.mem_cons.1 hb with h1 | h1; exact absurd h1 e; exact h1
   have ih' := ih hbp hy ho fun c hcm hcp hch => hc c hcm (by simp [hcp]) hch
   split
   ·rename_i z hz
    unfold Eff.run
    split
    ·rename_i j r' ho'
     cases hch : z.ch with
     | false =>
      have hne : j ≠ id := fun he => by
       subst he
       rcases hu b i y z j r r' hy hz ho ho' hch with h1 | h1
       ·exact e h1
       ·exact hi (h.closed b hbp i h1)
      show look ((j, r') :: _) id = _; rw [look_cons, if_neg hne]; exact ih'
     | true =>
      have hm := chs_mem (k := 0) hz ho' hch
      rw [Nat.zero_add] at hm
      have hno : (Nat.beq id j || r.has j) = false := by
       cases hh : (Nat.beq id j || r.has j) with
       | false => rfl
       | true =>
        rcases hc _ hm (by simp) hh with h2 | h2
        ·exact absurd h2.symm e
        ·exact absurd (h.closed b hbp i h2) hi
      simp only [Bool.or_eq_false_iff] at hno
      have hne : j ≠ id := fun he => beq_ne hno.1 he.symm
      show look ((j, r') :: (St.pur _ j).res) id = _
      rw [look_cons, if_neg hne]
      have h1 : look (St.pur (runR ys π σ) j).res id = (look (runR ys π σ).res id).map (R.pur j) := look_map (R.pur j) _ _
      rw [h1, ih']
      simp only [Option.map_some, R.pur_has hno.2]
    ·rename_i hz0
     show look (addsR z.ad _) id = _
     rw [look_addsR_ne fun v hv e' => ?_]
     ·exact ih'
     ·exact hi (h.closed b hbp i (ha b i y z id e hy hz (by simp [Eff.has, ho, Nat.beq_refl]) hz0 (List.mem_map.2 ⟨v, hv, e'⟩)))
   ·exact ih'
theorem run_resA (hu : ∀ (i j : Nat) (y z : Eff) (id : Nat) (r' : R), i ≠ j → ys[i]? = some y → ys[j]? = some z → y.has id = true → z.o = some (id, r') → z.ch = false → j ∈ B i) (ha : ∀ (i j : Nat) (y z : Eff) (id : Nat), i ≠ j → ys[i]? = some y → ys[j]? = some z → y.has id = true → z.o = none → id ∈ z.ad.map (·.1) → j ∈ B i) {π : List Nat} (hV : Vd B N π) :
  ∀ {b : Nat} {y : Eff} {id : Nat} {r : R}, b ∈ π → ys[b]? = some y → y.o = none → disN (y.ad.map (·.1)) = true → (id, r) ∈ y.ad → (∀ c ∈ chs 0 ys, c.1 ∈ π → (Nat.beq id c.2 || r.has c.2) = true → c.1 = b ∨ c.1 ∈ B b) → look (runR ys π σ).res id = some r := by
 induction hV with
 | nil => intro b y id r hb; cases hb
 | @cons i π h hB hi hN ih =>
  intro b y id r hb hy ho hda hmm hc
  have hhas : y.has id = true := by
   unfold Eff.has
   rw [ho]
   simp only [Bool.or_eq_true, List.any_eq_true]
   exact .inr ⟨_, hmm, .inl (Nat.beq_refl id)⟩
  rw [runR]
  by_cases e : b = i
  ·subst e
   rw [hy]
   unfold Eff.run
   simp only [ho]
   exact look_addsR_in hda hmm
  ·have hbp : b ∈ π := by rcases List.mem_cons.1 hb with h1 | h1; exact absurd h1 e; exact h1
   have ih' := ih hbp hy ho hda hmm fun c hcm hcp hch => hc c hcm (by simp [hcp]) hch
   split
   ·rename_i z hz
    unfold Eff.run
    split
    ·rename_i j r' ho'
     cases hch : z.ch with
     | false =>
      have hne : j ≠ id := fun he => by
       subst he
       exact hi (h.closed b hbp i (hu b i y z j r' e hy hz hhas ho' hch))
      show look ((j, r') :: _) id = _; rw [look_cons, if_neg hne]; exact ih'
     | true =>
      have hm := chs_mem (k := 0) hz ho' hch
      rw [Nat.zero_add] at hm
      have hno : (Nat.beq id j || r.has j) = false := by
       cases hh : (Nat.beq id j || r.has j) with
       | false => rfl
       | true =>
        rcases hc _ hm (by simp) hh with h2 | h2
        ·exact absurd h2.symm e
        ·exact absurd (h.closed b hbp i h2) hi
      simp only [Bool.or_eq_false_iff] at hno
      have hne : j ≠ id := fun he => beq_ne hno.1 he.symm
      show look ((j, r') :: (St.pur _ j).res) id = _
      rw [look_cons, if_neg hne]
      have h1 : look (St.pur (runR ys π σ) j).res id = (look (runR ys π σ).res id).map (R.pur j) := look_map (R.pur j) _ _
      rw [h1, ih']
      simp only [Option.map_some, R.pur_has hno.2]
    ·rename_i hz0
     show look (addsR z.ad _) id = _
     rw [look_addsR_ne fun v hv e' => ?_]
     ·exact ih'
     ·exact hi (h.closed b hbp i (ha b i y z id e hy hz hhas hz0 (List.mem_map.2 ⟨v, hv, e'⟩)))
   ·exact ih'
theorem run_res0 {π : List Nat} : ∀ {id : Nat} {r : R}, look σ.res id = some r → (∀ b ∈ π, ∀ y j r', ys[b]? = some y → y.o = some (j, r') → y.ch = false → j ≠ id) → (∀ b ∈ π, ∀ y, ys[b]? = some y → y.o = none → ∀ z ∈ y.ad, z.1 ≠ id) → (∀ c ∈ chs 0 ys, c.1 ∈ π → (Nat.beq id c.2 || r.has c.2) = false) → look (runR ys π σ).res id = some r := by
 induction π with
 | nil => intro id r h _ _ _; exact h
 | cons i π ih =>
  intro id r h hd hd2 hc
  have ih' := ih h (fun b hb => hd b (by simp [hb])) (fun b hb => hd2 b (by simp [hb])) fun c hcm hcp => hc c hcm (by simp [hcp])
  rw [runR]
  split
  ·rename_i z hz
   unfold Eff.run
   split
   ·rename_i j r' ho'
    cases hch : z.ch with
    | false =>
     show look ((j, r') :: _) id = _; rw [look_cons, if_neg (hd i (by simp) z j r' hz ho' hch)]; exact ih'
    | true =>
     have hm := chs_mem (k := 0) hz ho' hch
     rw [Nat.zero_add] at hm
     have hno := hc _ hm (by simp)
     simp only [Bool.or_eq_false_iff] at hno
     have hne : j ≠ id := fun he => beq_ne hno.1 he.symm
     show look ((j, r') :: (St.pur _ j).res) id = _
     rw [look_cons, if_neg hne]
     have h1 : look (St.pur (runR ys π σ) j).res id = (look (runR ys π σ).res id).map (R.pur j) := look_map (R.pur j) _ _
     rw [h1, ih']
     simp only [Option.map_some, R.pur_has hno.2]
   ·rename_i hz0
    show look (addsR z.ad _) id = _
    rw [look_addsR_ne (hd2 i (by simp) z hz hz0)]
    exact ih'
  ·exact ih'
end
def chOk (B : Nat → List Nat) (C : List (Nat × Nat)) (b : Option Nat) (i : Nat) (h : Nat → Bool) : Bool := C.all fun c => !(h c.2) || (Nat.beq c.1 i || memN (B c.1) i) || (match b with | some b => Nat.beq c.1 b || memN (B b) c.1 | none => false)
def knw (B : Nat → List Nat) (C : List (Nat × Nat)) (M : Nat → Bool) (i : Nat) : Nat → List Eff → St → St
 | k, y :: r, σ => let σ' := knw B C M i (k - 1) r σ
  bif M (k - 1) then ⟨σ'.n, bif chOk B C (some (k - 1)) i (fun j => y.x.2.has j) then (y.d, y.x) :: σ'.slots else σ'.slots, match y.o with | some (id, r) => bif chOk B C (some (k - 1)) i (fun j => Nat.beq id j || r.has j) then (id, r) :: σ'.res else σ'.res | none => addsR (y.ad.filter fun z => chOk B C (some (k - 1)) i fun j => Nat.beq z.1 j || z.2.has j) σ'.res⟩ else σ'
 | _, [], σ => ⟨σ.n, σ.slots.filter fun x => chOk B C none i fun j => x.2.2.has j, σ.res.filter fun x => chOk B C none i fun j => Nat.beq x.1 j || x.2.has j⟩
theorem look_filter {α : Type} {p : Nat × α → Bool} {t : Nat} {x : α} : ∀ {l : List (Nat × α)}, disN (l.map (·.1)) = true → look (l.filter p) t = some x → look l t = some x ∧ p (t, x) = true
 | [], _, h => by cases h
 | (k, v) :: l, hd, h => by
  simp only [List.map_cons, disN, Bool.and_eq_true, List.all_map, List.all_eq_true] at hd
  rw [List.filter_cons] at h
  split at h
  ·rename_i hp
   rw [look_cons] at h ⊢
   by_cases e : k = t
   ·rw [if_pos e] at h ⊢; cases h; subst e; exact ⟨rfl, hp⟩
   ·rw [if_neg e] at h ⊢; exact look_filter hd.2 h
  ·obtain ⟨h1, h2⟩ := look_filter hd.2 h
   have hm := look_mem h1
   have hne : k ≠ t := fun e => by have := hd.1 _ hm; simp [e] at this
   exact ⟨by rw [look_cons, if_neg hne]; exact h1, h2⟩
section
variable {B : Nat → List Nat} {C : List (Nat × Nat)} {M : Nat → Bool} {N : Nat}
theorem knw_n {i : Nat} : ∀ (acc : List Eff) (k : Nat) (σ : St), (knw B C M i k acc σ).n = σ.n
 | [], k, σ => by cases k <;> rfl
 | y :: r, k, σ => by
  rw [knw]
  have := knw_n (i := i) r (k - 1) σ
  cases M (k - 1)
  ·exact this
  ·exact this
theorem knw_slot {i : Nat} : ∀ {acc : List Eff} {k : Nat} {σ : St} {t : Nat} {x : Bool × S}, acc.length = k → disN (σ.slots.map (·.1)) = true → look (knw B C M i k acc σ).slots t = some x →
  (∃ b y, acc.reverse[b]? = some y ∧ M b = true ∧ chOk B C (some b) i (fun j => x.2.has j) = true ∧ y.d = t ∧ y.x = x) ∨ (look σ.slots t = some x ∧ chOk B C none i (fun j => x.2.has j) = true)
 | [], k, σ, t, x, hl, hd, h => by
  have h : look (σ.slots.filter fun x => chOk B C none i fun j => x.2.2.has j) t = some x := by cases k <;> exact h
  exact .inr (look_filter hd h)
 | y :: r, k, σ, t, x, hl, hd, h => by
  have hk : r.length = k - 1 := by simp at hl; omega
  have ih := fun h => knw_slot (i := i) (acc := r) (σ := σ) (t := t) (x := x) hk hd h
  have up : (∃ b y, r.reverse[b]? = some y ∧ M b = true ∧ chOk B C (some b) i (fun j => x.2.has j) = true ∧ y.d = t ∧ y.x = x) → ∃ b y', (y :: r).reverse[b]? = some y' ∧ M b = true ∧ chOk B C (some b) i (fun j => x.2.has j) = true ∧ y'.d = t ∧ y'.x = x := by
   rintro ⟨b, z, h1, h2⟩
   refine ⟨b, z, ?_, h2⟩
   rw [List.reverse_cons, List.getElem?_append_left (List.getElem?_eq_some_iff.1 h1).1]
   exact h1
  rw [knw] at h
  cases hM : M (k - 1) with
  | false =>
   rw [hM] at h
   rcases ih h with h1 | h1
   ·exact .inl (up h1)
   ·exact .inr h1
  | true =>
   rw [hM] at h
   simp only [cond_true] at h
   cases hc : chOk B C (some (k - 1)) i (fun j => y.x.2.has j) with
   | false =>
    rw [hc] at h
    rcases ih h with h1 | h1
    ·exact .inl (up h1)
    ·exact .inr h1
   | true =>
    rw [hc] at h
    simp only [cond_true] at h
    rw [look_cons] at h
    by_cases e : y.d = t
    ·rw [if_pos e] at h
     cases h
     refine .inl ⟨k - 1, y, ?_, hM, hc, e, rfl⟩
     rw [List.reverse_cons, List.getElem?_append_right (by simp [hk]), List.length_reverse, hk, Nat.sub_self]; rfl
    ·rw [if_neg e] at h
     rcases ih h with h1 | h1
     ·exact .inl (up h1)
     ·exact .inr h1
theorem knw_res {i : Nat} : ∀ {acc : List Eff} {k : Nat} {σ : St} {t : Nat} {x : R}, acc.length = k → disN (σ.res.map (·.1)) = true → look (knw B C M i k acc σ).res t = some x →
  (∃ b y, acc.reverse[b]? = some y ∧ M b = true ∧ chOk B C (some b) i (fun j => Nat.beq t j || x.has j) = true ∧ (y.o = some (t, x) ∨ y.o = none ∧ (t, x) ∈ y.ad)) ∨ (look σ.res t = some x ∧ chOk B C none i (fun j => Nat.beq t j || x.has j) = true)
 | [], k, σ, t, x, hl, hd, h => by
  have h : look (σ.res.filter fun x => chOk B C none i fun j => Nat.beq x.1 j || x.2.has j) t = some x := by cases k <;> exact h
  exact .inr (look_filter hd h)
 | y :: r, k, σ, t, x, hl, hd, h => by
  have hk : r.length = k - 1 := by simp at hl; omega
  have ih := fun h => knw_res (i := i) (acc := r) (σ := σ) (t := t) (x := x) hk hd h
  have up : (∃ b y, r.reverse[b]? = some y ∧ M b = true ∧ chOk B C (some b) i (fun j => Nat.beq t j || x.has j) = true ∧ (y.o = some (t, x) ∨ y.o = none ∧ (t, x) ∈ y.ad)) → ∃ b y', (y :: r).reverse[b]? = some y' ∧ M b = true ∧ chOk B C (some b) i (fun j => Nat.beq t j || x.has j) = true ∧ (y'.o = some (t, x) ∨ y'.o = none ∧ (t, x) ∈ y'.ad) := by
   rintro ⟨b, z, h1, h2⟩
   refine ⟨b, z, ?_, h2⟩
   rw [List.reverse_cons, List.getElem?_append_left (List.getElem?_eq_some_iff.1 h1).1]
   exact h1
  rw [knw] at h
  cases hM : M (k - 1) with
  | false =>
   rw [hM] at h
   rcases ih h with h1 | h1
   ·exact .inl (up h1)
   ·exact .inr h1
  | true =>
   rw [hM] at h
   simp only [cond_true] at h
   split at h
   ·rename_i id r' ho
    cases hc : chOk B C (some (k - 1)) i (fun j => Nat.beq id j || r'.has j) with
    | false =>
     rw [hc] at h
     rcases ih h with h1 | h1
     ·exact .inl (up h1)
     ·exact .inr h1
    | true =>
     rw [hc] at h
     simp only [cond_true] at h
     rw [look_cons] at h
     by_cases e : id = t
     ·rw [if_pos e] at h
      cases h
      subst e
      refine .inl ⟨k - 1, y, ?_, hM, hc, .inl ho⟩
      rw [List.reverse_cons, List.getElem?_append_right (by simp [hk]), List.length_reverse, hk, Nat.sub_self]; rfl
     ·rw [if_neg e] at h
      rcases ih h with h1 | h1
      ·exact .inl (up h1)
      ·exact .inr h1
   ·rename_i ho
    rcases look_addsK h with hm | h
    ·obtain ⟨h1, h2⟩ := List.mem_filter.1 hm
     refine .inl ⟨k - 1, y, ?_, hM, h2, .inr ⟨ho, h1⟩⟩
     rw [List.reverse_cons, List.getElem?_append_right (by simp [hk]), List.length_reverse, hk, Nat.sub_self]; rfl
    ·rcases ih h with h1 | h1
     ·exact .inl (up h1)
     ·exact .inr h1
def effB (B : Nat → List Nat) (N : Nat) (σ : St) (ys : List Eff) : Bool :=
 ys.all (fun y => (look σ.slots y.d).isNone) && disN (ys.map (·.d)) && disN (σ.slots.map (·.1)) && disN (σ.res.map (·.1)) && ((List.range N).all fun j => !(memN (B j) N)) &&
 (List.range ys.length).all fun i => match ys[i]? with
  | some ⟨_, _, some (id, _), false, _⟩ => !σ.has id && (List.range ys.length).all fun b => Nat.beq b i || (match ys[b]? with | some z => !(z.has id) || memN (B b) i | none => true)
  | some ⟨_, _, none, _, ad⟩ => disN (ad.map (·.1)) && ad.all fun v => !σ.has v.1 && (List.range ys.length).all fun b => Nat.beq b i || (match ys[b]? with | some z => !(z.has v.1) || memN (B b) i | none => true)
  | _ => true
theorem disD : ∀ {ys : List Eff}, disN (ys.map (·.d)) = true → ∀ (i j : Nat) (y z : Eff), ys[i]? = some y → ys[j]? = some z → y.d = z.d → i = j
 | [], _, i, j, y, z, h, _, _ => by simp at h
 | u :: r, h, i, j, y, z, h1, h2, e => by
  simp only [List.map_cons, disN, Bool.and_eq_true, List.all_map, List.all_eq_true] at h
  have key : ∀ v ∈ r, u.d ≠ v.d := fun v hv e => by have := h.1 v hv; simp [e] at this
  match i, j, h1, h2 with
  | 0, 0, _, _ => rfl
  | 0, j + 1, h1, h2 => simp at h1 h2; subst h1; exact absurd e (key z (List.mem_of_getElem? h2))
  | i + 1, 0, h1, h2 => simp at h1 h2; subst h2; exact absurd e.symm (key y (List.mem_of_getElem? h1))
  | i + 1, j + 1, h1, h2 => rw [disD h.2 i j y z (by simpa using h1) (by simpa using h2) e]
theorem effB_fresh {ys : List Eff} (h : effB B N σ ys = true) {i : Nat} {y : Eff} {id : Nat} {r : R} (hy : ys[i]? = some y) (ho : y.o = some (id, r)) (hc : y.ch = false) : σ.has id = false ∧ ∀ b z, b ≠ i → ys[b]? = some z → z.has id = true → i ∈ B b := by
 simp only [effB, Bool.and_eq_true] at h
 have h1 := List.all_eq_true.1 h.2 i (List.mem_range.2 (List.getElem?_eq_some_iff.1 hy).1)
 obtain ⟨d, x, o', ch, ad⟩ := y
 dsimp only at ho hc
 subst ho hc
 rw [hy] at h1
 simp only [Bool.and_eq_true, Bool.not_eq_true'] at h1
 refine ⟨h1.1, fun b z hb hz hh => ?_⟩
 have h2 := List.all_eq_true.1 h1.2 b (List.mem_range.2 (List.getElem?_eq_some_iff.1 hz).1)
 rw [hz] at h2
 simp only [Bool.or_eq_true, Bool.not_eq_true'] at h2
 rcases h2 with h2 | h2 | h2
 ·exact absurd (Nat.eq_of_beq_eq_true h2) hb
 ·rw [hh] at h2; cases h2
 ·exact memN_iff.1 h2
theorem effB_freshA {ys : List Eff} (h : effB B N σ ys = true) {i : Nat} {y : Eff} (hy : ys[i]? = some y) (ho : y.o = none) : disN (y.ad.map (·.1)) = true ∧ ∀ v ∈ y.ad, σ.has v.1 = false ∧ ∀ b z, b ≠ i → ys[b]? = some z → z.has v.1 = true → i ∈ B b := by
 simp only [effB, Bool.and_eq_true] at h
 have h1 := List.all_eq_true.1 h.2 i (List.mem_range.2 (List.getElem?_eq_some_iff.1 hy).1)
 obtain ⟨d, x, o', ch, ad⟩ := y
 dsimp only at ho
 subst ho
 rw [hy] at h1
 simp only [Bool.and_eq_true] at h1
 refine ⟨h1.1, fun v hv => ?_⟩
 have h3 := List.all_eq_true.1 h1.2 v hv
 simp only [Bool.and_eq_true, Bool.not_eq_true'] at h3
 refine ⟨h3.1, fun b z hb hz hh => ?_⟩
 have h2 := List.all_eq_true.1 h3.2 b (List.mem_range.2 (List.getElem?_eq_some_iff.1 hz).1)
 rw [hz] at h2
 simp only [Bool.or_eq_true, Bool.not_eq_true'] at h2
 rcases h2 with h2 | h2 | h2
 ·exact absurd (Nat.eq_of_beq_eq_true h2) hb
 ·rw [hh] at h2; cases h2
 ·exact memN_iff.1 h2
theorem knw_sup {ys acc more : List Eff} {i k : Nat} (he : effB B N σ ys = true) (hys : ys = acc.reverse ++ more) (hk : acc.length = k) {π : List Nat} (hV : Vd B N π) (hM : ∀ b, M b = true → b < k → b ∈ π) (hi : ∀ j ∈ π, i ∉ B j) (hin : i ∉ π) :
  Sup (knw B (chs 0 ys) M i k acc σ) (runR ys π σ) := by
 have he' := he
 simp only [effB, Bool.and_eq_true] at he'
 obtain ⟨⟨⟨⟨⟨e1, e2⟩, e3⟩, e4⟩, e5⟩, e6⟩ := he'
 have hd := fun i j y z => disD e2 i j y z
 have toY : ∀ {b : Nat} {y : Eff}, acc.reverse[b]? = some y → ys[b]? = some y ∧ b < k := fun {b y} h => by
  have hb := (List.getElem?_eq_some_iff.1 h).1
  refine ⟨by rw [hys, List.getElem?_append_left hb]; exact h, by simpa [hk] using hb⟩
 have ok1 : ∀ {b : Nat} {h : Nat → Bool}, chOk B (chs 0 ys) (some b) i h = true → ∀ c ∈ chs 0 ys, c.1 ∈ π → h c.2 = true → c.1 = b ∨ c.1 ∈ B b := fun {b h} hc c hcm hcp hh => by
  have := List.all_eq_true.1 hc c hcm
  simp only [hh, Bool.not_true, Bool.false_or, Bool.or_eq_true] at this
  rcases this with (h1 | h1) | h1 | h1
  ·exact absurd hcp (by rw [Nat.eq_of_beq_eq_true h1]; exact hin)
  ·exact absurd (memN_iff.1 h1) (hi _ hcp)
  ·exact .inl (Nat.eq_of_beq_eq_true h1)
  ·exact .inr (memN_iff.1 h1)
 have ok0 : ∀ {h : Nat → Bool}, chOk B (chs 0 ys) none i h = true → ∀ c ∈ chs 0 ys, c.1 ∈ π → h c.2 = false := fun {h} hc c hcm hcp => by
  cases hh : h c.2 with
  | false => rfl
  | true =>
   have := List.all_eq_true.1 hc c hcm
   simp only [hh, Bool.not_true, Bool.false_or, Bool.or_eq_true] at this
   rcases this with (h1 | h1) | h1
   ·exact absurd hcp (by rw [Nat.eq_of_beq_eq_true h1]; exact hin)
   ·exact absurd (memN_iff.1 h1) (hi _ hcp)
   ·cases h1
 refine ⟨by rw [runR_n, knw_n], fun t x h => ?_, fun t x h => ?_⟩
 ·rcases knw_slot hk e3 h with ⟨b, y, h1, h2, h3, h4, h5⟩ | ⟨h1, h2⟩
  ·obtain ⟨g1, g2⟩ := toY h1
   subst h4 h5
   exact run_slot hd hV (hM b h2 g2) g1 (ok1 h3)
  ·refine run_slot0 h1 (fun b _ y hy e => ?_) (ok0 h2)
   have := List.all_eq_true.1 e1 y (List.mem_of_getElem? hy)
   rw [e, h1] at this
   cases this
 ·have hA : ∀ (i j : Nat) (y z : Eff) (id : Nat), i ≠ j → ys[i]? = some y → ys[j]? = some z → y.has id = true → z.o = none → id ∈ z.ad.map (·.1) → j ∈ B i := fun i j y z id hne hi hj hh hz0 hm => by
   obtain ⟨v, hv, rfl⟩ := List.mem_map.1 hm
   exact ((effB_freshA he hj hz0).2 v hv).2 i y hne hi hh
  have hU : ∀ (i j : Nat) (y z : Eff) (id : Nat) (r' : R), i ≠ j → ys[i]? = some y → ys[j]? = some z → y.has id = true → z.o = some (id, r') → z.ch = false → j ∈ B i := fun i j y z id r' hne hi hj hh ho' hch => (effB_fresh he hj ho' hch).2 i y hne hi hh
  rcases knw_res hk e4 h with ⟨b, y, h1, h2, h3, h4⟩ | ⟨h1, h2⟩
  ·obtain ⟨g1, g2⟩ := toY h1
   rcases h4 with h4 | ⟨h4, h5⟩
   ·refine run_res (fun i j y z id r r' hi hj ho ho' hch => ?_) hA hV (hM b h2 g2) g1 h4 (ok1 h3)
    by_cases e : i = j
    ·exact .inl e
    ·exact .inr (hU i j y z id r' e hi hj (by simp [Eff.has, ho, Nat.beq_refl]) ho' hch)
   ·exact run_resA hU hA hV (hM b h2 g2) g1 h4 (effB_freshA he g1 h4).1 h5 (ok1 h3)
  ·refine run_res0 h1 (fun b _ y j r' hy ho hch e => ?_) (fun b _ y hy ho v hv e => ?_) (ok0 h2)
   ·subst e
    have := (effB_fresh he hy ho hch).1
    exact (St.has_res this h1).1 rfl
   ·subst e
    have := ((effB_freshA he hy ho).2 v hv).1
    exact (St.has_res this h1).1 rfl
end
def StepsK (P : Program) (ops : Array Oper) (B : Nat → List Nat) (C : List (Nat × Nat)) (ys : List Eff) (σ : St) : Nat → List Oper → List Eff → Prop
 | i, o :: l, y :: r => LocK P ops o (knw B C (memN (B i)) i i (ys.take i).reverse σ) y ∧ StepsK P ops B C ys σ (i + 1) l r
 | _, _, _ => True
theorem StepsK.at {ops : Array Oper} {B : Nat → List Nat} {C : List (Nat × Nat)} {ys : List Eff} {σ : St} : ∀ (l : List Oper) (r : List Eff) (k : Nat), StepsK P ops B C ys σ k l r → ∀ i o y, l[i]? = some o → r[i]? = some y → LocK P ops o (knw B C (memN (B (k + i))) (k + i) (k + i) (ys.take (k + i)).reverse σ) y
 | [], r, k, h, i, o, y, hl, hr => by simp at hl
 | o' :: l, [], k, h, i, o, y, hl, hr => by simp at hr
 | o' :: l, y' :: r, k, h, 0, o, y, hl, hr => by simp at hl hr; subst hl; subst hr; exact h.1
 | o' :: l, y' :: r, k, h, i + 1, o, y, hl, hr => by
  have := StepsK.at l r (k + 1) h.2 i o y (by simpa using hl) (by simpa using hr)
  rwa [show k + 1 + i = k + (i + 1) by omega] at this
structure DrawK (P : Program) (w0 : Base) (Q : Exit → St → Prop) (N : Nat) (B : Nat → List Nat) (C : List (Nat × Nat)) (l : List Oper) (n : Nat) (sl : List (Nat × (Bool × S))) (rs : List (Nat × R)) (acc : List Eff) (k : Nat) (rest : List Oper) : Prop where
 pf : acc.length = k → rest = l.drop k → ∃ more : List Eff, (acc.reverse ++ more).length = N ∧
  StepsK P l.toArray B C (acc.reverse ++ more) ⟨n, sl, rs⟩ k rest more ∧ effB B N ⟨n, sl, rs⟩ (acc.reverse ++ more) = true ∧ chs 0 (acc.reverse ++ more) = C ∧
  AWl P w0 l.toArray Q (l.drop N) (knw B C (fun _ => true) N N (acc.reverse ++ more).reverse ⟨n, sl, rs⟩)
variable {w0 : Base} {Q : Exit → St → Prop} {N : Nat} {B : Nat → List Nat} {C : List (Nat × Nat)} {l : List Oper} {n : Nat} {sl : List (Nat × (Bool × S))} {rs : List (Nat × R)} {acc : List Eff} {k : Nat} {rest : List Oper}
theorem DrawK.step {y : Eff} (hl : LocK P l.toArray o (knw B C (memN (B k)) k k acc ⟨n, sl, rs⟩) y) (h : DrawK P w0 Q N B C l n sl rs (y :: acc) (k + 1) rest) : DrawK P w0 Q N B C l n sl rs acc k (o :: rest) := ⟨fun ha hr => by
 have hd : rest = l.drop (k + 1) := by
  have := congrArg (List.drop 1) hr
  simpa using this
 obtain ⟨more, h1, h2, h3, h4, h5⟩ := h.pf (by simp [ha]) hd
 have e : (y :: acc).reverse ++ more = acc.reverse ++ (y :: more) := by simp
 rw [e] at h1 h2 h3 h4 h5
 refine ⟨y :: more, h1, ⟨?_, h2⟩, h3, h4, h5⟩
 have : ((acc.reverse ++ (y :: more)).take k).reverse = acc := by
  rw [List.take_append_of_le_length (by simp [ha]), List.take_of_length_le (by simp [ha]), List.reverse_reverse]
 rw [this]
 exact hl⟩
theorem DrawK.fin (hk : Nat.beq k N = true) (hU : effB B N ⟨n, sl, rs⟩ acc.reverse = true) (hC : chs 0 acc.reverse = C) (h : AWl P w0 l.toArray Q rest (knw B C (fun _ => true) N k acc ⟨n, sl, rs⟩)) : DrawK P w0 Q N B C l n sl rs acc k rest := ⟨fun ha hr => by
 have hk' := Nat.eq_of_beq_eq_true hk
 subst hk'
 refine ⟨[], by simp [ha], by unfold StepsK; split <;> first | trivial | (rename_i h; cases h), by rw [List.append_nil]; exact hU, by rw [List.append_nil]; exact hC, ?_⟩
 rw [List.append_nil, List.reverse_reverse, ← hr]
 exact h⟩
theorem AW.drawK {id : Nat} (N : Nat) (B : Nat → List Nat) (C : List (Nat × Nat)) (hm : P.follows .mixedOrders = true) (hB : planC l.toArray N = true) (hO : ordB l B N = true) (h : DrawK P w0 Q N B C l n sl rs [] 0 l) : AW P w0 (.region id l.toArray true) Q ⟨n, sl, rs⟩ := by
 obtain ⟨ys, hl, hsteps, he, hC, hfin⟩ := h.pf rfl rfl
 simp only [List.reverse_nil, List.nil_append] at hl hsteps he hC hfin
 subst hC
 generalize hσ : (⟨n, sl, rs⟩ : St) = σ at hsteps he hfin
 intro a w hr
 refine wp_region_any hm ?_
 have hlN : N ≤ l.length := by
  simp only [planC, Bool.and_eq_true, decide_eq_true_eq] at hB
  simpa using hB.1.1.1
 have inB : ∀ (listed : Array Bool), HeadInv .any l.toArray N listed → ∀ i o, i < N → l[i]? = some o → (∀ j ∈ deps o, listed.getD j false = true) → ∀ j ∈ B i, listed.getD j false = true := by
  intro listed inv i o hi ho hd
  have hOi := List.all_eq_true.1 hO i (List.mem_range.2 hi)
  rw [ho] at hOi
  have hOi' := List.all_eq_true.1 hOi
  have key : ∀ d j, N - j ≤ d → j ∈ B i → listed.getD j false = true := by
   intro d
   induction d with
   | zero =>
    intro j hj hm
    have := hOi' j hm
    simp only [Bool.or_eq_true, List.contains_iff_mem, List.any_eq_true, Bool.and_eq_true, decide_eq_true_eq] at this
    rcases this with h | ⟨m, hmB, ⟨h1, h2⟩, h3⟩
    ·exact hd j h
    ·omega
   | succ d ih =>
    intro j hj hm
    have := hOi' j hm
    simp only [Bool.or_eq_true, List.contains_iff_mem, List.any_eq_true, Bool.and_eq_true, decide_eq_true_eq] at this
    rcases this with h | ⟨m, hmB, ⟨h1, h2⟩, h3⟩
    ·exact hd j h
    ·have hml := ih m (by omega) hmB
     cases hom : l[m]? with
     | none => rw [hom] at h3; cases h3
     | some om =>
      rw [hom] at h3
      simp only [List.contains_iff_mem] at h3
      obtain ⟨e, he, hb, rfl⟩ := mem_deps.1 h3
      exact inv.closed m om (by simpa using hom) hml e he hb
  exact fun j hm => key (N - j) j (Nat.le_refl _) hm
 have H := wpAny_inv (P := P) (N := N) (Q := lift w0 Q) (J := fun listed a w => ∃ π, Vd B N π ∧ (∀ j, j ∈ π ↔ j < N ∧ listed.getD j false = true) ∧ Rel w0 (runR ys π σ) a w) hB (fun i o1 hi ho1 listed a w inv hd hu hJ => ?_) (fun listed a w hall hJ => ?_)
  (unl N (Array.replicate l.toArray.size false)) (Array.replicate l.toArray.size false) a { w with drawn := w.drawn + 1 } rfl
  ⟨by simp, fun j oj _ hl => (by rw [getD_replicate_false] at hl; cases hl), fun t _ ht => getD_in (by simpa using ht) (getD_replicate_false _ _)⟩ ?_
 ·have hu : unl N (Array.replicate l.toArray.size false) = N := by
   unfold unl
   rw [List.countP_eq_length.2 (fun j _ => by rw [getD_replicate_false]; rfl), List.length_range]
  rw [hu, show N + (l.toArray.size - N) = l.toArray.size by simp; omega] at H
  exact H
 · -- one step
  have ho' : l[i]? = some o1 := by simpa using ho1
  have hBL := inB listed inv i o1 hi ho' hd
  have hget : ∀ j, (listed.setIfInBounds i true).getD j false = if j = i then true else listed.getD j false := by
   intro j
   by_cases e : j = i
   ·subst e
    have : j < listed.size := by rw [inv.size]; simp; omega
    simp [this]
   ·rw [if_neg e]; exact getD_set_ne false (fun h => e h.symm)
  intro K Q' hK
  obtain ⟨π, hV, hπ, hR⟩ := hJ
  have hin : i ∉ π := fun hm => by have := ((hπ i).1 hm).2; rw [hu] at this; cases this
  have hni : ∀ j ∈ π, i ∉ B j := fun j hj hm => hin (hV.closed j hj i hm)
  obtain ⟨y, hy⟩ : ∃ y, ys[i]? = some y := ⟨ys[i]'(by omega), List.getElem?_eq_getElem _⟩
  have hloc := hsteps.at l ys 0 i o1 y ho' hy
  rw [Nat.zero_add] at hloc
  have hBi : ∀ j, j ∈ B i → j < i → j ∈ π := fun j hj hlt => (hπ j).2 ⟨by omega, hBL j hj⟩
  have hsup := knw_sup (M := memN (B i)) (i := i) (k := i) (acc := (ys.take i).reverse) (more := ys.drop i) he (by rw [List.reverse_reverse, List.take_append_drop]) (by simp; omega) hV (fun b hb hlt => hBi b (memN_iff.1 hb) hlt) hni hin
  have hBN : ∀ j ∈ B i, j ∈ π ∨ ¬ j < N := fun j hj => by
   by_cases hlt : j < N
   ·exact .inl ((hπ j).2 ⟨hlt, hBL j hj⟩)
   ·exact .inr hlt
  have hBall : ∀ j ∈ B i, j ∈ π := fun j hj => by
   rcases hBN j hj with h1 | h1
   ·exact h1
   ·exfalso
    have h2 := hBL j hj
    have h3 := inv.tail j (by omega)
    by_cases hjs : j < l.toArray.size
    ·have h4 := h3 hjs
     have hjl : j < listed.size := by rw [inv.size]; exact hjs
     simp [hjl] at h2 h4
     rw [h2] at h4; cases h4
    ·have hjl : ¬ j < listed.size := by rw [inv.size]; exact hjs
     simp [hjl] at h2
  refine hloc _ hsup (fun id r ho hc => ?_) (fun ho v hv => ?_) w0 a w hR K Q' fun a' w' hr' => hK a' w' ⟨i :: π, .cons hV hBall hin hi, fun j => ?_, ?_⟩
  ·obtain ⟨f1, f2⟩ := effB_fresh he hy ho hc
   refine runR_has f1 fun b hb z hz => ?_
   cases hh : z.has id with
   | false => rfl
   | true => exact absurd (f2 b z (fun e => hin (e ▸ hb)) hz hh) (hni b hb)
  ·obtain ⟨f1, f2⟩ := (effB_freshA he hy ho).2 v hv
   refine runR_has f1 fun b hb z hz => ?_
   cases hh : z.has v.1 with
   | false => rfl
   | true => exact absurd (f2 b z (fun e => hin (e ▸ hb)) hz hh) (hni b hb)
  ·rw [hget]
   by_cases e : j = i
   ·subst e; simp [hi]
   ·rw [if_neg e, List.mem_cons, hπ]; simp [e]
  ·rw [runR, hy]; exact hr'
 · -- behind them
  obtain ⟨π, hV, hπ, hR⟩ := hJ
  have hall' : ∀ b, b < N → b ∈ π := fun b hb => (hπ b).2 ⟨hb, hall b hb⟩
  have hNB : ∀ j ∈ π, N ∉ B j := fun j hj hm => by
   simp only [effB, Bool.and_eq_true] at he
   have := List.all_eq_true.1 he.1.2 j (List.mem_range.2 ((hπ j).1 hj).1)
   rw [memN_iff.2 hm] at this
   cases this
  have hsup := knw_sup (M := fun _ => true) (i := N) (k := N) (acc := ys.reverse) (more := []) he (by simp) (by simp; omega) hV (fun b _ hlt => hall' b hlt) hNB (fun hm => by have := ((hπ N).1 hm).1; omega)
  have H := hfin a w (Rel.of_look hR hsup.n.symm hsup.slots hsup.res)
  simpa using H
 · -- the start
  subst hσ
  obtain ⟨I, hI⟩ := hr
  refine ⟨[], .nil, fun j => ?_, I, hI.later (Ext.refl w).drawn⟩
  rw [getD_replicate_false]
  simp
end
end Go.Q
