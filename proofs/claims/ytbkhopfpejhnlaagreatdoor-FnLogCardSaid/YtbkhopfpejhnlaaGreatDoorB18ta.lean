import Derived.Test.YtbkhopfpejhnlaaGreatDoorAbs16ta
import Derived.Test.YtbkhopfpejhnlaaGreatDoorAbs12ta
import Derived.Test.YtbkhopfpejhnlaaGreatDoorAbs14ta
import Derived.Test.YtbkhopfpejhnlaaGreatDoorB03ta
set_option linter.unusedVariables false
set_option linter.unusedSimpArgs false
namespace Go.Q
open Go.RowKit
section
variable {P : Program} {ops : Array Oper} {o : Oper} {σ : St} {q : Bool}
variable {w0 : Base} {Q : Exit → St → Prop} {n : Nat} {sl : List (Nat × (Bool × S))} {rs : List (Nat × R)} {l : List Oper}
theorem RelI.take {I : Ip} {w : World} {a : Act} {id k i p k2 : Nat} (nid : Nat) {rows rows2 : List (List T)} {row : List T} (hr : RelI I w0 ⟨n, sl, rs⟩ a w) (hs : look rs id = some (.row k rows)) (hi : rows[i]? = some row) (hp : row[p]? = some (.sl k2 rows2))
 (hf : ∀ c0, St.has ⟨n, puvS id sl, updR id (.row k (rows.set i (row.take p ++ .v c0 :: row.drop (p + 1)))) rs⟩ nid = false) :
 ∃ c I', (∃ a l k, c = .slice a l k) ∧ RelI I' w0 ⟨n, puvS id sl, (nid, .row k2 rows2) :: updR id (.row k (rows.set i (row.take p ++ .v c :: row.drop (p + 1)))) rs⟩ a w ∧ I'.hd nid = c ∧ ∀ g n' m', I.hd id = .slice (some ⟨g, 0, none⟩) n' m' → w.cell? ⟨g, i * k + p, none⟩ = some c := by
 have hC : C true w (.sl k rows) _ _ := hr.res id _ hs
 have own := hr.own id _ hs
 simp only [C] at hC
 obtain ⟨a0, len, cap, g1, g2, g3, g4, g5⟩ := hC
 have hlti : i < rows.length := (List.getElem?_eq_some_iff.1 hi).1
 rcases g5 with ⟨g5, _⟩ | ⟨g, off, Gr, rfl, hF, g6, g7, g8⟩
 · omega
 obtain ⟨rfl, cur, e, hcur, hcs⟩ := g7 trivial
 have hg1 := g1
 rw [hF] at own
 obtain ⟨u1, xs, u2, u3, u4⟩ := g8.flat
 simp only [Nat.zero_add] at u4
 obtain ⟨p1, _⟩ := set_split (.sl k2 rows2 : T) hp
 have hrk : row.length = k := u1 row (List.mem_of_getElem? hi)
 have hpl : p < row.length := (List.getElem?_eq_some_iff.1 hp).1
 have s1 := (set_split row hi).1
 have e1 : rows.flatten = ((rows.take i).flatten ++ row.take p) ++ ([.sl k2 rows2] ++ (row.drop (p + 1) ++ (rows.drop (i + 1)).flatten)) := by
  conv => lhs; rw [s1, p1]
  simp
 rw [e1] at u2
 obtain ⟨x1, x23, F1, F23, rfl, rfl, v1, v2, v3⟩ := u2.split
 obtain ⟨x2, x3, F2, F3, rfl, rfl, v4, v5, v6⟩ := v2.split
 match x2, v6 with
 | [c], _ =>
 have v4' : C true w (.sl k2 rows2) c F2 := by
  rw [Cs] at v4
  obtain ⟨c', cr, G1, G2, e, h1, h2, rfl⟩ := v4
  cases e
  rw [Cs] at h2
  obtain ⟨_, rfl⟩ := h2
  simpa using h1
 have hfl : ((rows.take i).flatten).length = i * k := by
  have key : ∀ (l : List (List T)), (∀ r ∈ l, r.length = k) → l.flatten.length = l.length * k := by
   intro l
   induction l with
   | nil => intro _; simp
   | cons r l ih => intro h; rw [List.flatten_cons, List.length_append, ih fun r hr => h r (by simp [hr]), h r (by simp), List.length_cons, Nat.succ_mul]; omega
  rw [key _ fun r hr => u1 r (List.mem_of_mem_take hr), List.length_take, Nat.min_eq_left (Nat.le_of_lt hlti)]
 have lx1 : x1.length = i * k + p := by rw [v3, List.length_append, hfl, List.length_take]; omega
 have hc := u4 (i * k + p) c (by rw [← lx1, List.getElem?_append_right (Nat.le_refl _), Nat.sub_self]; rfl)
 have hsl : ∃ a l k, c = .slice a l k := by
  simp only [C] at v4'
  obtain ⟨a1, l1, c1, e, _⟩ := v4'
  exact ⟨_, _, _, e⟩
 have hnd := List.nodup_cons.1 own.1
 obtain ⟨d1, d23, d12⟩ := List.nodup_append.1 hnd.2
 obtain ⟨d2, d3, d23'⟩ := List.nodup_append.1 d23
 have inG : ∀ b, b ∈ g :: (F1 ++ F3) → b ∈ g :: (F1 ++ (F2 ++ F3)) ∧ b ∉ F2 := fun b hb => by
  rcases List.mem_cons.1 hb with rfl | hb
  · exact ⟨by simp, fun hm => hnd.1 (by simp [hm])⟩
  · rcases List.mem_append.1 hb with hb | hb
    · exact ⟨by simp [hb], fun hm => d12 b hb b (by simp [hm]) rfl⟩
    · exact ⟨by simp [hb], fun hm => d23' b hm b hb rfl⟩
 have r1 := hr.upd (G := g :: (F1 ++ F3)) (r := .row k (rows.set i (row.take p ++ .v c :: row.drop (p + 1)))) hs (Chg.refl w _) ⟨List.nodup_cons.2 ⟨fun hm => ?_, List.nodup_append.2 ⟨d1, d3, fun b hb b' hb' e => ?_⟩⟩, fun b hb => ?_⟩ ?_
 · have r2 := r1.addF (hf c) (G := F2) (u := c) (b := 0) (r := .row k2 rows2) d2 (fun b hb => ?_) (by
    show C true w (.sl k2 rows2) _ _
    simp only [Ip.set, if_true]
    exact v4')
   · refine ⟨c, _, hsl, r2, by simp only [Ip.set, if_true], fun g0 n0 m0 h0 => ?_⟩
     rw [hg1] at h0
     cases h0
     exact hc
   · obtain ⟨o1, cc, ee, o2⟩ := own.2 b (by simp [hb])
     have hlt : b < w.heap.size := (Array.getElem?_eq_some_iff.1 o2).1
     refine ⟨o1, hlt, ⟨cc, ee, o2⟩, fun hz => (hr.lt id b (by rw [hF]; simp [hb])).2 hz, fun j hj => ?_⟩
     by_cases ej : j = id
     · simp only [Ip.set, if_pos ej] at hj
       exact (inG b hj).2 hb
     · simp only [Ip.set, if_neg ej] at hj
       exact hr.apart j id ej b hj (by rw [hF]; simp [hb])
 · rcases List.mem_append.1 hm with hm | hm
   · exact hnd.1 (by simp [hm])
   · exact hnd.1 (by simp [hm])
 · subst e
   exact d12 b hb b (by simp [hb']) rfl
 · obtain ⟨hin, _⟩ := inG b hb
   obtain ⟨o1, cc, ee, o2⟩ := own.2 b hin
   exact ⟨o1, (Array.getElem?_eq_some_iff.1 o2).1, ⟨cc, ee, o2⟩, .inl (by rw [hF]; exact hin)⟩
 · show C true _ _ _ _
   simp only [Ip.set, if_true]
   unfold C
   refine ⟨_, _, _, hg1, by simpa using g2, g3, g4, .inr ⟨g, 0, F1 ++ F3, rfl, rfl, g6, fun _ => ⟨rfl, cur, e, hcur, hcs⟩, Rws.of (xs := x1 ++ ([c] ++ x3)) (fun r hm => ?_) ?_ fun j u hj => ?_⟩⟩
   · rcases List.mem_or_eq_of_mem_set hm with hm | rfl
     · exact u1 r hm
     · simp only [List.length_append, List.length_take, List.length_cons, List.length_drop]
       omega
   · rw [(set_split (row.take p ++ .v c :: row.drop (p + 1)) hi).2]
     have ef : (rows.take i ++ (row.take p ++ .v c :: row.drop (p + 1)) :: rows.drop (i + 1)).flatten = ((rows.take i).flatten ++ row.take p) ++ ([.v c] ++ (row.drop (p + 1) ++ (rows.drop (i + 1)).flatten)) := by simp
     rw [ef]
     refine v1.append (Cs.append (F := []) ?_ v5)
     unfold Cs
     obtain ⟨a1, l1, c1, rfl⟩ := hsl
     exact ⟨_, [], [], [], rfl, by unfold C; exact ⟨rfl, rfl, rfl⟩, by unfold Cs; exact ⟨rfl, rfl⟩, rfl⟩
   · rw [Nat.zero_add]
     exact u4 j u hj
end
end Go.Q
namespace Go.Q
open Go.RowKit
section
variable {P : Program} {ops : Array Oper} {o : Oper} {σ : St} {q : Bool}
theorem C.hdr {o : Bool} {w : World} {k : Nat} {rows : List (List T)} {a : Option Addr} {n m : Nat} {F : List Nat} (h : C o w (.sl k rows) (.slice a n m) F) : rows.length = n ∧ n ≤ m ∧ m ≤ maxLen := by
 simp only [C] at h
 obtain ⟨a', n', m', e, h1, h2, h3, _⟩ := h
 cases e
 exact ⟨h1, h2, h3⟩
def OpE (P : Program) (ops : Array Oper) (o : Oper) (σ : St) (Φ : St → Prop) : Prop := ∀ w0 a w, Rel w0 σ a w → ∀ (K : Act → World → Prop) (Q : Exit → Act → World → Prop), (∀ σ' a' w', Φ σ' → Rel w0 σ' a' w' → K a' w') →
 if Region.wanted o (yielded ops a.tmps) then o.wp P a w K Q else K (a.put o.dst undef) w
theorem OpE.eff {Φ : St → Prop} (hg : o.guard = none) (h : ∀ w0 a w, Rel w0 σ a w → ∃ v w' σ', (execOp a.eval o).run P w = .ok (.value v) w' ∧ Φ σ' ∧ Rel w0 σ' (a.put o.dst v) w') : OpE P ops o σ Φ := by
 intro w0 a w hr K Q hK
 simp only [Region.wanted, hg, if_true]
 obtain ⟨v, w', σ', h1, h2, h3⟩ := h w0 a w hr
 unfold Oper.wp
 rw [h1]
 exact hK _ _ _ h2 h3
theorem AWl.opE {w0 : Base} {Q : Exit → St → Prop} {l : List Oper} {Φ : St → Prop} (ho : OpE P ops o σ Φ) (h : ∀ σ', Φ σ' → AWl P w0 ops Q l σ') : AWl P w0 ops Q (o :: l) σ := fun a w hr =>
 wpList_step fun K hK => ho w0 a w hr K _ fun σ' a' w' hφ hr' => hK a' w' (h σ' hφ a' w' hr')
variable {w0 : Base} {Q : Exit → St → Prop} {n : Nat} {sl : List (Nat × (Bool × S))} {rs : List (Nat × R)} {l : List Oper}
end
end Go.Q
namespace Go.Q
open Go.RowKit
section
variable {P : Program} {ops : Array Oper} {o : Oper} {σ : St} {q : Bool}
theorem R_load_prq {id k i p : Nat} {t : TypeId} {x : Operand} {rows : List (List T)} {row : List T} {ag : Bool} {n : Nat} (ho : o.op = .load t x) (hg : Grd ops o σ q) (hd : o.dst.all (fun d => Nat.blt d σ.n) = true) (hx : Get σ q x (.one (.pr id k i p))) (hs : look σ.res id = some (.row k rows)) (hi : q = true → rows[i]? = some row) (ht : tyB P t ag n = true)
 (hn : Nat.ble (p + n) row.length = true) (h1 : (ag || Nat.beq n 1) = true) : Op1 P ops o σ (σ.put o.dst (q, .a (mkA ag (((row.drop p).take n).map (toE id))))) := by
 cases q with
 | true => exact R_load_pr ho hg hd hx hs (hi rfl) ht hn h1
 | false => exact .val hg hd fun I w0 a w hr hq => by cases hq
theorem R_callq {f : FuncId} {l : List Operand} {tys : Array TypeId} {ins : List V0} {out : V} (ho : o.op = .call { callee := .value (.func f), args := l.toArray, argTypes := tys }) (hg : Grd ops o σ q) (hd : o.dst.all (fun d => Nat.blt d σ.n) = true)
 (ha : Args σ q l ins) (h : q = true → FrT P f ins out) : Op1 P ops o σ (σ.put o.dst (q, inS out)) := by
 cases q with
 | true => exact R_callz (h rfl) ho hg hd ha
 | false =>
  rintro w0 a w ⟨I, hr⟩ K Q hK
  rw [hg.wanted hr]
  exact hK _ _ ⟨I, hr.put hd rfl⟩
theorem isV_map {α : Type} {f : α → List T} (h : ∀ x, (f x).all T.isV = true) : ∀ l : List α, (l.map f).flatten.all T.isV = true
 | [] => rfl
 | x :: l => by rw [List.map_cons, List.flatten_cons, List.all_append, h x, isV_map h l]; rfl
theorem isV_part {α : Type} {f : α → List T} (h : ∀ x, (f x).all T.isV = true) (l : List α) (n m : Nat) : (((l.map f).take m).drop n).flatten.all T.isV = true := by
 rw [← List.map_take, ← List.map_drop]; exact isV_map h _
theorem R_slice_vwr {id : Nat} {t e : TypeId} {x : Operand} {lo hi : Option Operand} {k n m : Nat} {ag : Bool} {rows : List (List T)} (ho : o.op = .slice t x lo hi none) (hg : Grd ops o σ q) (hd : o.dst.all (fun d => Nat.blt d σ.n) = true) (hx : Get σ q x (.one (.rf id))) (hs : look σ.res id = some (.row k rows))
 (hl : Bnd σ q lo 0 n) (hh : Bnd σ q hi rows.length m) (hu : P.underlying t = some (.slice e)) (hk : tyB P e ag k = true) (hb : q = true → n ≤ m ∧ m ≤ rows.length) : Op1 P ops o σ (σ.put o.dst (q, .a (.one (.vw id (.sl k ((rows.take m).drop n)))))) :=
 .val hg hd fun I w0 a w hr hq => by
  have hv : VE I w (.rf id) (a.eval x) := hx.va hr hq
  have hC : C true w (.sl k rows) (I.hd id) (I.F id) := hr.res id _ hs
  obtain ⟨v', F', g1, g2, g3⟩ := slice_C hu hk (C.read hC) (hl.val hr hq) (hh.val hr hq) (hb hq).2 (hb hq).1
  rw [← hv.1] at g1
  exact ⟨v', by simp [execOp, ho, g1], F', g2, g3⟩
end
end Go.Q
namespace Go.Q
open Go.RowKit
section
variable {P : Program}
def disN : List Nat → Bool
 | [] => true
 | x :: l => l.all (fun y => !(Nat.beq x y)) && disN l
theorem Sup.sub0 {σ σ' : St} (hn : σ'.n = σ.n) (hs : SubS0 σ σ'.slots) (hr : SubR0 σ σ'.res) : Sup σ' σ := ⟨hn.symm, fun i x h => look_SubS0 hs i x h, fun i x h => look_SubR0 hr i x h⟩
def StepsF (P : Program) (ops : Array Oper) (B : Nat → List Nat) (outs : List Out) (X : Nat → Bool) (σ σ2 : St) : Nat → List Oper → List Out → Prop
 | i, o :: l, y :: r => Loc P ops o (stL (memN (B i)) 0 outs (bif X i then σ2 else σ)) y ∧ StepsF P ops B outs X σ σ2 (i + 1) l r
 | _, _, _ => True
theorem StepsF.at {ops : Array Oper} {B : Nat → List Nat} {outs : List Out} {X : Nat → Bool} {σ σ2 : St} : ∀ (l : List Oper) (r : List Out) (k : Nat), StepsF P ops B outs X σ σ2 k l r → ∀ i o y, l[i]? = some o → r[i]? = some y → Loc P ops o (stL (memN (B (k + i))) 0 outs (bif X (k + i) then σ2 else σ)) y
 | [], r, k, h, i, o, y, hl, hr => by simp at hl
 | o' :: l, [], k, h, i, o, y, hl, hr => by simp at hr
 | o' :: l, y' :: r, k, h, 0, o, y, hl, hr => by simp at hl hr; subst hl; subst hr; exact h.1
 | o' :: l, y' :: r, k, h, i + 1, o, y, hl, hr => by
  have := StepsF.at l r (k + 1) h.2 i o y (by simpa using hl) (by simpa using hr)
  rwa [show k + 1 + i = k + (i + 1) by omega] at this
end
end Go.Q
namespace Go.Q
open Go.RowKit
section
variable {P : Program} {ops : Array Oper} {o : Oper} {σ : St} {q : Bool}
structure DrawG (P : Program) (N : Nat) (B : Nat → List Nat) (l : List Oper) (n : Nat) (sl : List (Nat × (Bool × S))) (rs : List (Nat × R)) (Fin : List Out → Prop) (acc : List Out) (k : Nat) (rest : List Oper) : Prop where
 pf : acc.length = k → rest = l.drop k → ∃ more : List Out, (acc.reverse ++ more).length = N ∧
  Steps P l.toArray B (acc.reverse ++ more) ⟨n, sl, rs⟩ k rest more ∧ Fin (acc.reverse ++ more)
variable {N : Nat} {B : Nat → List Nat} {l : List Oper} {n : Nat} {sl : List (Nat × (Bool × S))} {rs : List (Nat × R)} {Fin : List Out → Prop} {acc : List Out} {k : Nat} {rest : List Oper}
theorem DrawG.step {y : Out} (hN : Nat.blt k N = true) (hlt : ((B k).all fun j => Nat.blt j k) = true) (hl : Loc P l.toArray o (stR (memN (B k)) k acc ⟨n, sl, rs⟩) y) (h : DrawG P N B l n sl rs Fin (y :: acc) (k + 1) rest) : DrawG P N B l n sl rs Fin acc k (o :: rest) := ⟨fun ha hr => by
 have hd : rest = l.drop (k + 1) := by
  have := congrArg (List.drop 1) hr
  simpa using this
 obtain ⟨more, h1, h3, h4⟩ := h.pf (by simp [ha]) hd
 have e : (y :: acc).reverse ++ more = acc.reverse ++ (y :: more) := by simp
 rw [e] at h1 h3 h4
 refine ⟨y :: more, h1, ⟨?_, h3⟩, h4⟩
 have : stL (memN (B k)) 0 (acc.reverse ++ (y :: more)) ⟨n, sl, rs⟩ = stR (memN (B k)) k acc ⟨n, sl, rs⟩ := by
  rw [stL_append, ← ha, stR_eq, stL_false]
  intro j hj
  rw [List.length_reverse, Nat.zero_add, ha] at hj
  cases hm : memN (B acc.length) j with
  | false => rfl
  | true =>
   have h1 := List.all_eq_true.1 hlt j (by rw [← ha]; exact memN_iff.1 hm)
   have h2 : j < k := Nat.le_of_ble_eq_true h1
   omega
 rw [this]
 exact hl⟩
theorem DrawG.fin (hk : Nat.beq k N = true) (h : Fin acc.reverse) : DrawG P N B l n sl rs Fin acc k rest := ⟨fun ha hr => by
 have hk' := Nat.eq_of_beq_eq_true hk
 refine ⟨[], by simp [ha, hk'], by unfold Steps; split <;> first | trivial | (rename_i h; cases h), by rw [List.append_nil]; exact h⟩⟩
def FinA (P : Program) (w0 : Base) (Q : Exit → St → Prop) (N : Nat) (B : Nat → List Nat) (l : List Oper) (σ : St) (o : Oper) (nid d : Nat) (r : R) (x : Bool × S) (outs : List Out) : Prop :=
 (outs.all (fun y => y.2.2.isEmpty) = true ∧ outs.map (fun y => y.2.1.2.pur nid) = outs.map (fun y => y.2.1.2) ∧ outs.all (fun y => (look σ.slots y.1).isNone && !(Nat.beq y.1 d)) = true ∧ disN (outs.map (·.1)) = true) ∧
 (∀ σ', Sup (stL (memN (B N)) 0 outs σ) σ' → Op1 P l.toArray o σ' ((σ'.chg nid r).put o.dst x)) ∧
 AWl P w0 l.toArray Q (l.drop (N + 1)) (stL (fun _ => true) 0 outs ((σ.chg nid r).put (some d) x))
theorem stL_all : ∀ (outs : List Out) (i : Nat) (σ : St), stL (fun _ => true) i outs σ = ⟨σ.n, finSl outs.reverse σ.slots, finRs outs.reverse σ.res⟩ := fun outs i σ => by
 have h := fin_eq (n := σ.n) (sl := σ.slots) (rs := σ.res) outs.reverse outs.reverse.length
 rw [stR_eq, List.reverse_reverse] at h
 have key : ∀ (os : List Out) (i j : Nat) (σ : St), stL (fun _ => true) i os σ = stL (fun _ => true) j os σ := by
  intro os
  induction os with
  | nil => intro i j σ; rfl
  | cons y os ih => intro i j σ; rw [stL, stL]; exact ih _ _ _
 rw [key outs i 0 σ]
 exact h
theorem FinA.mk {w0 : Base} {Q : Exit → St → Prop} {nid d : Nat} {r : R} {x : Bool × S} (h1 : (acc.reverse.all (fun y => y.2.2.isEmpty) && (acc.reverse.all (fun y => (look σ.slots y.1).isNone && !(Nat.beq y.1 d)) && disN (acc.reverse.map (·.1)))) = true) (h2 : acc.reverse.map (fun y => y.2.1.2.pur nid) = acc.reverse.map (fun y => y.2.1.2))
 (h3 : ∀ σ', Sup (stR (memN (B N)) N acc σ) σ' → Op1 P l.toArray o σ' ((σ'.chg nid r).put o.dst x)) (hk : Nat.beq acc.length N = true)
 (h4 : AWl P w0 l.toArray Q (l.drop (N + 1)) ⟨σ.n, finSl acc ((d, x) :: (σ.chg nid r).slots), finRs acc (σ.chg nid r).res⟩) : FinA P w0 Q N B l σ o nid d r x acc.reverse := by
 simp only [Bool.and_eq_true] at h1
 have hk' := Nat.eq_of_beq_eq_true hk
 refine ⟨⟨h1.1, h2, by simpa only [Bool.and_eq_true] using h1.2.1, h1.2.2⟩, fun σ' hs => h3 σ' ?_, ?_⟩
 · rw [← hk', stR_eq, hk']; exact hs
 · rw [stL_all, List.reverse_reverse]; exact h4
end
end Go.Q
namespace Go.Q
open Go.D
def reads (e : TEdge) (b : Bool) : Int := if b then 2 * e.Label + 1 else 2 * e.Label
end Go.Q
namespace Go.Proofs.YtbkhopfpejhnlaaGreatDoor
open Go.RowKit Go.Q Go.D
end Go.Proofs.YtbkhopfpejhnlaaGreatDoor
set_option maxHeartbeats 1000000
set_option maxRecDepth 100000
namespace Go.Q
open Go.D
def bitsN (m : Nat) : List Nat := (List.range 64).filter m.testBit
def nextOf (a : TAutomaton) (s k : Int) : Int := (a.Next[s.toNat]?.getD [])[k.toNat]?.getD (-1)
def clos (a : TAutomaton) (v : Int) : Nat → Int → Nat → Nat
 | 0, _, m => m
 | f + 1, s, m => if s < 0 || m.testBit s.toNat then m else clos a v f (nextOf a s (6 + v)) (m ||| 2 ^ s.toNat)
def closure (a : TAutomaton) (s v : Int) : Nat := clos a v (a.Accept.length + 1) s 0
def accAt (a : TAutomaton) (t : Nat) : Bool := a.Accept[t]?.getD false
def acc (a : TAutomaton) (s v : Int) : Bool := (bitsN (closure a s v)).any (accAt a)
structure TArc where
 step : TStep
 letter : Int
 to : Int
 deriving DecidableEq
end Go.Q
namespace Go.Proofs.YtbkhopfpejhnlaaGreatDoor
open Go.RowKit Go.Q Go.D
end Go.Proofs.YtbkhopfpejhnlaaGreatDoor
set_option maxHeartbeats 1000000
set_option maxRecDepth 100000
namespace Go.Q
open Go.D
end Go.Q
namespace Go.Proofs.YtbkhopfpejhnlaaGreatDoor
open Go.RowKit Go.Q Go.D
end Go.Proofs.YtbkhopfpejhnlaaGreatDoor
set_option maxHeartbeats 1000000
set_option maxRecDepth 100000
namespace Go.Q
open Go.D
end Go.Q
namespace Go.Proofs.YtbkhopfpejhnlaaGreatDoor
open Go.RowKit Go.Q Go.D
end Go.Proofs.YtbkhopfpejhnlaaGreatDoor
