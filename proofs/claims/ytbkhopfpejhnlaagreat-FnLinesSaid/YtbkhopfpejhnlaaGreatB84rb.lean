import Derived.Test.YtbkhopfpejhnlaaGreatAbsRrb
import Derived.Test.YtbkhopfpejhnlaaGreatAbs12rb
import Derived.Test.YtbkhopfpejhnlaaGreatAbs13rb
import Derived.Test.YtbkhopfpejhnlaaGreatAbsNrb
import Derived.Laws.Cover3
import Derived.Test.YtbkhopfpejhnlaaGreatSortrb
import Derived.Lib.Join
import Derived.Lib.ItoaNum
import Derived.Test.YtbkhopfpejhnlaaGreatB28rb
import Derived.Test.YtbkhopfpejhnlaaGreatAbsJrb
import Derived.Test.YtbkhopfpejhnlaaGreatB114rb
import Derived.Test.YtbkhopfpejhnlaaGreatStdrb
set_option linter.unusedVariables false
set_option linter.unusedSimpArgs false
namespace Go.Q
open Go.RowKit
end Go.Q
namespace Go.Q
open Go.RowKit
section
variable {P : Program} {ops : Array Oper} {o : Oper} {σ : St} {q : Bool}
theorem guard_str {op : BinOp} {t : TypeId} {x y : Operand} {a b : ByteArray} (w : World) : (eqGuard op t x y (.string a) (.string b)).run P w = .ok () w := by
 unfold eqGuard; split <;> rfl
theorem str_eq (a b : ByteArray) : (a.toList == b.toList) = decide (a = b) := by
 rw [Bool.eq_iff_iff, beq_iff_eq, decide_eq_true_eq]
 exact ⟨fun h => by
  rw [ByteArray.toList_eq, ByteArray.toList_eq] at h
  exact ByteArray.ext (Array.toList_inj.1 h), fun h => by rw [h]⟩
theorem R_cat {t t' : TypeId} {x y : Operand} {a b : ByteArray} (ho : o.op = .binOp .add t x y t') (hg : Grd ops o σ q) (hd : o.dst.all (fun d => Nat.blt d σ.n) = true) (hx : Get σ q x (.one (.t (.v (.string a))))) (hy : Get σ q y (.one (.t (.v (.string b)))))
 (hb : q = true → a.size + b.size ≤ 9223372036854775807) : Op1 P ops o σ (σ.put o.dst (q, .a (.one (.t (.v (.string (a ++ b))))))) :=
 R_bin ho hg hd hx hy guard_str (h := fun hq w => by
  have := hb hq
  simp only [binOp, Op.stringOp]
  rw [if_neg (show ¬ (((a.size + b.size : Nat) : Int) > IntKind.i64.max) by rw [show IntKind.i64.max = 9223372036854775807 from rfl]; omega)]
  rfl)
theorem R_eqstr {t t' : TypeId} {x y : Operand} {a b : ByteArray} (ho : o.op = .binOp .eql t x y t') (hg : Grd ops o σ q) (hd : o.dst.all (fun d => Nat.blt d σ.n) = true) (hx : Get σ q x (.one (.t (.v (.string a))))) (hy : Get σ q y (.one (.t (.v (.string b))))) :
 Op1 P ops o σ (σ.put o.dst (q, .a (.one (.t (.v (.bool (decide (a = b)))))))) :=
 R_bin ho hg hd hx hy guard_str (h := fun hq w => by simp only [binOp, Op.stringOp, str_eq]; rfl)
theorem R_strIndex {t : TypeId} {x y : Operand} {s : ByteArray} {n : Int} {b : UInt8} (ho : o.op = .index t x y) (hg : Grd ops o σ q) (hd : o.dst.all (fun d => Nat.blt d σ.n) = true) (hx : Get σ q x (.one (.t (.v (.string s))))) (hy : Get σ q y (.one (.t (.v (.int .i64 n)))))
 (hu : P.underlying t = some .string) (hi : q = true → 0 ≤ n ∧ s[n.toNat]? = some b) : Op1 P ops o σ (σ.put o.dst (q, .a (.one (.t (.v (.int .u8 b.toNat)))))) :=
 .val hg hd fun I w0 a w hr hq => ⟨_, by
  obtain ⟨h0, h1⟩ := hi hq
  simp [execOp, ho, hx.int hr hq, hy.int hr hq, Instr.index, asIntOf, run_underlying hu, h0, h1], VS_v _⟩
theorem R_strSlice {t : TypeId} {x : Operand} {lo hi : Option Operand} {n m : Nat} {s : ByteArray} (ho : o.op = .slice t x lo hi none) (hg : Grd ops o σ q) (hd : o.dst.all (fun d => Nat.blt d σ.n) = true) (hx : Get σ q x (.one (.t (.v (.string s)))))
 (hl : Bnd σ q lo 0 n) (hh : Bnd σ q hi s.size m) (hu : P.underlying t = some .string) (hb : q = true → n ≤ m ∧ m ≤ s.size) : Op1 P ops o σ (σ.put o.dst (q, .a (.one (.t (.v (.string (s.extract n m))))))) :=
 .val hg hd fun I w0 a w hr hq => ⟨_, by
  obtain ⟨b1, b2⟩ := hb hq
  have b3 : n ≤ s.size := Nat.le_trans b1 b2
  have hs := hx.int hr hq
  have hlo := hl.val hr hq
  have hhi := hh.val hr hq
  rcases hlo with ⟨e1, rfl⟩ | e1 <;> rcases hhi with ⟨e2, rfl⟩ | e2 <;> simp [execOp, ho, hs, e1, e2, Instr.sliceAt, Instr.slice, run_underlying hu, Instr.sliceBounds, Instr.sliceBound, asIntOf, b1, b2, b3], VS_v _⟩
end
end Go.Q
namespace Go.Q
open Go.RowKit
section
variable {P : Program} {ops : Array Oper} {o : Oper} {σ : St}
theorem R_load_hd {d nid hid k : Nat} {c0 : Value} {rows : List (List T)} (h : Op1 P ops o σ (σ.put o.dst (true, .a (.one (.t (.v c0)))))) (hdst : o.dst = some d) (hh : look σ.res hid = some (.hdr (some nid) c0)) (hs : look σ.res nid = some (.row k rows)) :
 Op1 P ops o σ (σ.put o.dst (true, .a (.one (.rf nid)))) := fun w0 a w hr K Q hK => h w0 a w hr K Q fun a' w' hr' => hK a' w' (by
 rw [hdst] at hr' ⊢
 obtain ⟨I, g⟩ := hr'
 refine ⟨I, g.ext, g.defers, g.size, fun i x hi => ?_, g.res, g.old, g.lt, g.own, g.apart⟩
 have hi2 : look ((d, (true, S.a (.one (.rf nid)))) :: σ.slots) i = some x := hi
 clear hi
 rw [look_cons] at hi2
 by_cases e : d = i
 · subst e
   rw [if_pos rfl] at hi2
   cases hi2
   have h1 : VS I w' (true, .a (.one (.t (.v c0)))) (a'.tmps.getD d undef) := g.slots d _ (by show look ((d, _) :: σ.slots) d = _; rw [look_cons, if_pos rfl])
   obtain ⟨G, k1, _⟩ : VE I w' (.t (.v c0)) (a'.tmps.getD d undef) := h1
   simp only [C] at k1
   have k2 : I.hd nid = c0 := (g.res _ _ hh).2 nid rfl
   have hC : C true w' (.sl k rows) (I.hd nid) (I.F nid) := g.res nid _ hs
   simp only [C] at hC
   obtain ⟨a1, l1, c1, e1, _⟩ := hC
   exact show VE I w' (.rf nid) _ from ⟨by rw [k1.1, k2], a1, l1, c1, by rw [k1.1, ← k2, e1]⟩
 · rw [if_neg e] at hi2
   exact g.slots i x (by show look ((d, _) :: σ.slots) i = _; rw [look_cons, if_neg e]; exact hi2))
theorem R_load_hdr {d nid hid k2 : Nat} {c0 : Value} {rows2 : List (List T)} {id k i p : Nat} {t : TypeId} {x : Operand} {rows : List (List T)} {row : List T} {ag : Bool} {n : Nat} (ho : o.op = .load t x) (hg : Grd ops o σ true) (hd : o.dst.all (fun d => Nat.blt d σ.n) = true) (hx : Get σ true x (.one (.pr id k i p))) (hs : look σ.res id = some (.row k rows)) (hi : rows[i]? = some row) (ht : tyB P t ag n = true)
 (hn : Nat.ble (p + n) row.length = true) (h1 : (ag || Nat.beq n 1) = true) (hc : mkA ag (((row.drop p).take n).map (toE id)) = .one (.t (.v c0))) (hdst : o.dst = some d) (hh : look σ.res hid = some (.hdr (some nid) c0)) (hs2 : look σ.res nid = some (.row k2 rows2)) :
 Op1 P ops o σ (σ.put o.dst (true, .a (.one (.rf nid)))) :=
 R_load_hd (c0 := c0) (by have := R_load_pr ho hg hd hx hs hi ht hn h1; rw [hc] at this; exact this) hdst hh hs2
end
end Go.Q
namespace Go.Q
open Go.RowKit
section
variable {P : Program} {ops : Array Oper} {o : Oper} {σ : St} {q : Bool}
theorem run_byteStr {w : World} {n : Int} {v : Value} {G : List Nat} (h : C false w (.sl 1 [[.v (.int .u8 n)]]) v G) : (Conv.bytesToString v).run P w = .ok (.string ⟨#[UInt8.ofNat n.toNat]⟩) w := by
 simp only [C] at h
 obtain ⟨a, len, cap, rfl, e1, e2, e3, e4⟩ := h
 have e1 : len = 1 := by simpa using e1.symm
 subst e1
 rcases e4 with ⟨h0, _⟩ | ⟨b, off, G', rfl, _, hb, _, hR⟩
 · omega
 · simp only [Rws, Ms, C] at hR
   obtain ⟨_, _, _, ⟨c, _, _, hc, ⟨rfl, _⟩, _⟩, _⟩ := hR
   have hl := run_loadCells_list (P := P) w ⟨b, off, none⟩ [.int .u8 n] (fun j u hj => by
    cases j with
    | zero => cases hj; rw [Addr.add_lit]; simpa using hc
    | succ j => cases hj)
   simp only [List.length_singleton] at hl
   simp [Conv.bytesToString, hl]
   rfl
theorem R_byteStr {t t' e : TypeId} {x : Operand} {n : Int} (ho : o.op = .convert t t' x) (hg : Grd ops o σ q) (hd : o.dst.all (fun d => Nat.blt d σ.n) = true) (hx : Get σ q x (.one (.t (.sl 1 [[.v (.int .u8 n)]]))))
 (hu : P.underlying t = some (.slice e)) (he : P.underlying e = some (.int .u8)) (hu' : P.underlying t' = some .string) : Op1 P ops o σ (σ.put o.dst (q, .a (.one (.t (.v (.string ⟨#[UInt8.ofNat n.toNat]⟩)))))) :=
 .val hg hd fun I w0 a w hr hq => by
  obtain ⟨G, h1, _⟩ : VE I w (.t (.sl 1 [[.v (.int .u8 n)]])) (a.eval x) := hx.va hr hq
  have hb := run_byteStr (P := P) h1
  have hs := h1
  simp only [C] at hs
  obtain ⟨ad, len, cap, e0, _⟩ := hs
  exact ⟨_, by
   rw [e0] at hb
   simp [execOp, ho, e0, Go.convert, run_underlying hu, run_underlying hu', run_underlying he, hb], VS_v _⟩
end
end Go.Q
namespace Go.Q
open Go.RowKit
theorem Le.putR {σ : St} {nid hid id k i p k2 : Nat} {c0 : Value} {rows rows2 : List (List T)} {row : List T} (hh : look σ.res hid = some (.hdr (some nid) c0)) (hn : look σ.res nid = some (.row k2 rows2)) (hs : look σ.res id = some (.row k rows)) (hi : rows[i]? = some row) (hp : row[p]? = some (.v c0))
 (e1 : Nat.beq id nid = false) (e2 : Nat.beq id hid = false) (e3 : Nat.beq nid hid = false) : Le σ (((σ.kill hid).kill nid).upd id (.row k (rows.set i (row.take p ++ .sl k2 rows2 :: row.drop (p + 1))))) := by
 rintro w0 a w ⟨I, hr⟩
 have hc : I.hd nid = c0 := (hr.res _ _ hh).2 nid rfl
 have hC2 : C true w (.sl k2 rows2) (I.hd nid) (I.F nid) := hr.res nid _ hn
 have own2 := hr.own nid _ hn
 have ap := hr.apart id nid (beq_ne e1)
 obtain ⟨q1, _, _⟩ := hr.kill hh
 have hn' := look_kill (beq_ne e3) hn
 obtain ⟨q2, qf, _⟩ := q1.kill hn'
 have hs' := look_kill (beq_ne e1) (look_kill (beq_ne e2) hs)
 have hC : C true w (.sl k rows) _ _ := hr.res id _ hs
 have own := hr.own id _ hs
 simp only [C] at hC
 obtain ⟨a0, len, cap, g1, g2, g3, g4, g5⟩ := hC
 have hlti : i < rows.length := (List.getElem?_eq_some_iff.1 hi).1
 rcases g5 with ⟨g5, _⟩ | ⟨g, off, Gr, rfl, hF, g6, g7, g8⟩
 · omega
 obtain ⟨rfl, cur, e, hcur, hcs⟩ := g7 trivial
 have hF2 : ((I.set hid [] (I.hd hid) (I.B hid)).set nid [] ((I.set hid [] (I.hd hid) (I.B hid)).hd nid) ((I.set hid [] (I.hd hid) (I.B hid)).B nid)).F id = g :: Gr := by
  simp only [Ip.set, if_neg (beq_ne e1), if_neg (beq_ne e2)]; exact hF
 have hF1 : (I.set hid [] (I.hd hid) (I.B hid)).F nid = I.F nid := by simp only [Ip.set, if_neg (beq_ne e3)]
 have hhd : ((I.set hid [] (I.hd hid) (I.B hid)).set nid [] ((I.set hid [] (I.hd hid) (I.B hid)).hd nid) ((I.set hid [] (I.hd hid) (I.B hid)).B nid)).hd id = I.hd id := by
  simp only [Ip.set, if_neg (beq_ne e1), if_neg (beq_ne e2)]
 rw [hF] at own ap
 obtain ⟨u1, xs, u2, u3, u4⟩ := g8.flat
 simp only [Nat.zero_add] at u4
 obtain ⟨p1, _⟩ := set_split (.v c0 : T) hp
 have hrk : row.length = k := u1 row (List.mem_of_getElem? hi)
 have hpl : p < row.length := (List.getElem?_eq_some_iff.1 hp).1
 have s1 := (set_split row hi).1
 have x0 : rows.flatten = ((rows.take i).flatten ++ row.take p) ++ ([.v c0] ++ (row.drop (p + 1) ++ (rows.drop (i + 1)).flatten)) := by
  conv => lhs; rw [s1, p1]
  simp
 rw [x0] at u2
 obtain ⟨x1, x23, F1, F23, rfl, rfl, v1, v2, v3⟩ := u2.split
 obtain ⟨x2, x3, F2, F3, rfl, rfl, v4, v5, v6⟩ := v2.split
 match x2, v6 with
 | [c], _ =>
 rw [Cs] at v4
 obtain ⟨c', cr, G1, G2, ec, y1, y2, rfl⟩ := v4
 cases ec
 rw [Cs] at y2
 obtain ⟨_, rfl⟩ := y2
 simp only [C] at y1
 obtain ⟨rfl, rfl, _⟩ := y1
 simp only [List.nil_append, List.append_nil] at *
 have hnd := List.nodup_cons.1 own.1
 obtain ⟨d1, d3, d13⟩ := List.nodup_append.1 hnd.2
 have apb : ∀ b, b ∈ g :: (F1 ++ F3) → b ∉ I.F nid := fun b hb => ap b hb
 refine ⟨_, q2.upd (G := g :: (F1 ++ (I.F nid ++ F3))) (r := .row k (rows.set i (row.take p ++ .sl k2 rows2 :: row.drop (p + 1)))) hs' (Chg.refl w _) ⟨List.nodup_cons.2 ⟨fun hm => ?_, List.nodup_append.2 ⟨d1, List.nodup_append.2 ⟨own2.1, d3, fun b hb b' hb' ee => ?_⟩, fun b hb b' hb' ee => ?_⟩⟩, fun b hb => ?_⟩ ?_⟩
 · rcases List.mem_append.1 hm with hm | hm
   · exact hnd.1 (by simp [hm])
   · rcases List.mem_append.1 hm with hm | hm
     · exact apb g (by simp) hm
     · exact hnd.1 (by simp [hm])
 · subst ee
   exact apb b (by simp [hb']) hb
 · subst ee
   rcases List.mem_append.1 hb' with hb' | hb'
   · exact apb b (by simp [hb]) hb'
   · exact d13 b hb b hb' rfl
 · have hcase : b ∈ g :: (F1 ++ F3) ∨ b ∈ I.F nid := by
    rcases List.mem_cons.1 hb with rfl | hb
    · exact .inl (by simp)
    · rcases List.mem_append.1 hb with hb | hb
      · exact .inl (by simp [hb])
      · rcases List.mem_append.1 hb with hb | hb
        · exact .inr hb
        · exact .inl (by simp [hb])
   rcases hcase with hb | hb
   · obtain ⟨o1, cc, ee, o2⟩ := own.2 b hb
     exact ⟨o1, (Array.getElem?_eq_some_iff.1 o2).1, ⟨cc, ee, o2⟩, .inl (by rw [hF2]; exact hb)⟩
   · obtain ⟨o1, cc, ee, o2⟩ := own2.2 b hb
     exact ⟨o1, (Array.getElem?_eq_some_iff.1 o2).1, ⟨cc, ee, o2⟩, .inr (.inr (qf b (by rw [hF1]; exact hb)))⟩
 · show C true _ _ _ _
   simp only [Ip.set, if_true]
   rw [if_neg (beq_ne e1), if_neg (beq_ne e2)]
   unfold C
   refine ⟨_, _, _, g1, by simpa using g2, g3, g4, .inr ⟨g, 0, F1 ++ (I.F nid ++ F3), rfl, rfl, g6, fun _ => ⟨rfl, cur, e, hcur, hcs⟩, Rws.of (xs := x1 ++ ([I.hd nid] ++ x3)) (fun r hm => ?_) ?_ fun j u hj => ?_⟩⟩
   · rcases List.mem_or_eq_of_mem_set hm with hm | rfl
     · exact u1 r hm
     · simp only [List.length_append, List.length_take, List.length_cons, List.length_drop]
       omega
   · rw [(set_split (row.take p ++ .sl k2 rows2 :: row.drop (p + 1)) hi).2]
     have ef : (rows.take i ++ (row.take p ++ .sl k2 rows2 :: row.drop (p + 1)) :: rows.drop (i + 1)).flatten = ((rows.take i).flatten ++ row.take p) ++ ([.sl k2 rows2] ++ (row.drop (p + 1) ++ (rows.drop (i + 1)).flatten)) := by simp
     rw [ef]
     refine v1.append (Cs.append ?_ v5)
     simp only [Cs]
     exact ⟨_, _, _, _, rfl, hC2, ⟨rfl, rfl⟩, by simp⟩
   · rw [hc] at hj
     simp only [Nat.zero_add]
     exact u4 j u hj
end Go.Q
namespace Go.Q
open Go.RowKit
section
variable {P : Program} {ops : Array Oper} {o : Oper} {σ : St} {q : Bool}
theorem R_conv {t t' : TypeId} {x : Operand} {k0 k : IntKind} {n m : Int} (ho : o.op = .convert t t' x) (hg : Grd ops o σ q) (hd : o.dst.all (fun d => Nat.blt d σ.n) = true) (hx : Get σ q x (.one (.t (.v (.int k0 n))))) (hu0 : (P.underlying t).isSome = true) (hu : P.underlying t' = some (.int k)) (hm : q = true → k.wrap n = m) :
 Op1 P ops o σ (σ.put o.dst (q, .a (.one (.t (.v (.int k m)))))) :=
 .val hg hd fun I w0 a w hr hq => by
  have hv := hx.int hr hq
  obtain ⟨u0, hu0⟩ := Option.isSome_iff_exists.1 hu0
  exact ⟨_, by simp [execOp, ho, hv, Go.convert, run_underlying hu0, run_underlying hu, Conv.intToInt, hm hq], VS_v _⟩
end
end Go.Q
namespace Go.Q
open Go.RowKit
section
variable {P : Program}
structure MixD (P : Program) (l : List Oper) (n : Nat) (sl : List (Nat × (Bool × S))) (rs : List (Nat × R)) (outs : List Out) (acc : List (Nat × St)) (todo : List (Nat × List Nat)) (es : List (Nat × Nat × Nat)) (Fin : (Nat → St) → Prop) : Prop where
 pf : ∃ st : Nat → St, (∀ k σ, look acc k = some σ → st k = σ) ∧ (∀ p ∈ todo, Le (stL (memN p.2) 0 outs ⟨n, sl, rs⟩) (st p.1)) ∧ (∀ e ∈ es, ∀ o, l[e.2.1]? = some o → ∀ w0, AWl P w0 l.toArray (EndQ (st e.2.2)) [o] (st e.1)) ∧ Fin st
variable {l : List Oper} {n : Nat} {sl : List (Nat × (Bool × S))} {rs : List (Nat × R)} {outs : List Out} {acc : List (Nat × St)} {todo : List (Nat × List Nat)} {es : List (Nat × Nat × Nat)} {Fin : (Nat → St) → Prop}
theorem MixD.add {b : Nat} {S : List Nat} (σ' : St) (hb : look acc b = none) (hle : Le (stL (memN S) 0 outs ⟨n, sl, rs⟩) σ') (h : MixD P l n sl rs outs ((b, σ') :: acc) todo es Fin) : MixD P l n sl rs outs acc ((b, S) :: todo) es Fin := by
 obtain ⟨st, h1, h2, h3⟩ := h.pf
 have h1' : ∀ k σ, look acc k = some σ → st k = σ := fun k σ hk => h1 k σ (by
  rw [look_cons, if_neg (fun e => ?_)]
  · exact hk
  · subst e; rw [hb] at hk; cases hk)
 refine ⟨st, h1', fun p hp => ?_, h3⟩
 rcases List.mem_cons.1 hp with rfl | hp
 · show Le _ (st b)
   rw [h1 b σ' (by rw [look_cons, if_pos rfl])]
   exact hle
 · exact h2 p hp
theorem MixD.go (h : Dag P l acc es Fin) : MixD P l n sl rs outs acc [] es Fin := by
 obtain ⟨st, h1, h2, h3⟩ := h.pf
 exact ⟨st, h1, fun p hp => (by cases hp), h2, h3⟩
def FinX (P : Program) (w0 : Base) (Q : Exit → St → Prop) (N k : Nat) (B : Nat → List Nat) (es : List (Nat × Nat × Nat)) (todo : List (Nat × List Nat)) (l : List Oper) (n : Nat) (sl : List (Nat × (Bool × S))) (rs : List (Nat × R)) (outs : List Out) : Prop :=
 delS (outs.map (·.1)) sl = sl ∧ outB B ⟨n, sl, rs⟩ outs = true ∧ MixD P l n sl rs outs [] todo es (fun st => AWl P w0 l.toArray Q (l.drop N) (st k))
theorem FinX.mk {w0 : Base} {Q : Exit → St → Prop} {N k : Nat} {B : Nat → List Nat} (hd : delS (outs.map (·.1)) sl = sl) (hU : outB B ⟨n, sl, rs⟩ outs = true) (h : MixD P l n sl rs outs [] todo es (fun st => AWl P w0 l.toArray Q (l.drop N) (st k))) : FinX P w0 Q N k B es todo l n sl rs outs := ⟨hd, hU, h⟩
end
end Go.Q
set_option maxHeartbeats 1000000
set_option maxRecDepth 100000
namespace Go.Q
open Go.D
def bs (l : List UInt8) : ByteArray := ⟨l.toArray⟩
theorem bs_append (l m : List UInt8) : bs l ++ bs m = bs (l ++ m) := by
 apply ByteArray.ext
 rw [ByteArray.data_append]
 simp [bs]
theorem bs_nil_append (O : ByteArray) : bs [] ++ O = O := by
 apply ByteArray.ext
 rw [ByteArray.data_append]
 simp [bs]
theorem bs_size (l : List UInt8) : (bs l).size = l.length := by simp [bs, ByteArray.size]
theorem bs_list (l : List UInt8) : (bs l).data.toList = l := by simp [bs]
theorem bs_inj {l m : List UInt8} (h : bs l = bs m) : l = m := by rw [← bs_list l, ← bs_list m, h]
def numS (n : Int) : List UInt8 := Lib.decDigits n.toNat
theorem dig_small {n : Nat} (h : n < 10) : Lib.decDigits n = [UInt8.ofNat (48 + n)] := by rw [Lib.decDigits, dif_pos h]
theorem dig_more {n : Nat} (h : 10 ≤ n) : Lib.decDigits n = Lib.decDigits (n / 10) ++ [UInt8.ofNat (48 + n % 10)] := by rw [Lib.decDigits, dif_neg (by omega)]
theorem dig_len {n : Nat} (h : n < 100) : 1 ≤ (Lib.decDigits n).length ∧ (Lib.decDigits n).length ≤ 2 := by
 by_cases h1 : n < 10
 · rw [dig_small h1]; simp
 · rw [dig_more (by omega), dig_small (by omega)]; simp
theorem numS_len {n : Int} (h : n < 100) : 1 ≤ (numS n).length ∧ (numS n).length ≤ 2 := dig_len (by omega)
def restD (n : Nat) : List UInt8 := if n = 0 then [] else Lib.decDigits n
theorem restD_step {n : Nat} (h : n ≠ 0) : restD n = restD (n / 10) ++ [UInt8.ofNat (48 + n % 10)] := by
 unfold restD
 rw [if_neg h]
 by_cases h1 : n < 10
 · rw [dig_small h1, if_pos (by omega), Nat.mod_eq_of_lt h1]; rfl
 · rw [dig_more (by omega), if_neg (by omega)]
def cStr (s : List UInt8) : List T := [.v (.string (bs s))]
end Go.Q
set_option maxHeartbeats 1000000
set_option maxRecDepth 100000
namespace Go.Q
open Go.D
def letNames : List (List UInt8) := [[97], [97, 45], [98], [98, 45], [99], [99, 45], [48], [49], [50]]
def letS (k : Int) : List UInt8 := letNames[k.toNat]?.getD []
theorem letS_get {k : Int} (h0 : 0 ≤ k) (h8 : k ≤ 8) : (letNames.map cStr)[k.toNat]? = some (cStr (letS k)) := by
 have hk : k.toNat < letNames.length := by simp [letNames]; omega
 rw [List.getElem?_map, List.getElem?_eq_getElem hk]
 unfold letS
 rw [List.getElem?_eq_getElem hk]; rfl
end Go.Q
set_option maxHeartbeats 1000000
set_option maxRecDepth 100000
namespace Go.Q
open Go.D
end Go.Q
namespace Go.Proofs.YtbkhopfpejhnlaaGreat
open Go.RowKit Go.Q Go.D
end Go.Proofs.YtbkhopfpejhnlaaGreat
set_option maxHeartbeats 1000000
set_option maxRecDepth 100000
namespace Go.Q
open Go.D
def tokS (t : TToken) : List UInt8 :=
 if t.Kind = 1 then [33] else if t.Kind = 2 then [40, 41] else if t.Kind = 3 then letS t.Letter else if t.Kind = 4 then [46] else if t.Kind = 5 then [124] else if t.Kind = 6 then [42]
 else [123] ++ numS t.Low ++ [44] ++ numS t.High ++ [125]
theorem depth_ar : ∀ {l : List TToken} {d : Int}, depthGo d l = true → ∀ t ∈ l, 0 ≤ arity t
 | [], _, _ => fun t ht => by cases ht
 | x :: r, d, h => by
  rw [depthGo] at h
  split at h
  · cases h
  · rename_i hc
    intro t ht
    rcases List.mem_cons.1 ht with rfl | ht
    · omega
    · exact depth_ar h t ht
theorem valid_toks {e : TExpr} (h : isValidExpr e = true) : e.Tokens.length ≤ 24 ∧ ∀ t ∈ e.Tokens, 0 ≤ arity t := by
 unfold isValidExpr isExpr at h
 simp only [Bool.and_eq_true, decide_eq_true_eq] at h
 exact ⟨h.1, depth_ar h.2⟩
theorem tok_rep {t : TToken} (h : 0 ≤ arity t) (h1 : t.Kind ≠ 1) (h2 : t.Kind ≠ 2) (h3 : t.Kind ≠ 3) (h4 : t.Kind ≠ 4) (h5 : t.Kind ≠ 5) (h6 : t.Kind ≠ 6) : (0 ≤ t.Low ∧ t.Low ≤ 3) ∧ 0 ≤ t.High ∧ t.High ≤ 3 := by
 unfold arity at h
 rw [if_neg (by omega), if_neg h3, if_neg (by omega), if_neg h6] at h
 split at h
 · split at h
   · rename_i hc
     simp only [inB, Bool.and_eq_true, decide_eq_true_eq] at hc
     omega
   · omega
 · omega
theorem tok_let {t : TToken} (h : 0 ≤ arity t) (h3 : t.Kind = 3) : 0 ≤ t.Letter ∧ t.Letter ≤ 8 := by
 unfold arity at h
 rw [if_neg (by omega), if_pos h3] at h
 split at h
 · rename_i hc
   simp only [inB, Bool.and_eq_true, decide_eq_true_eq] at hc
   omega
 · omega
end Go.Q
