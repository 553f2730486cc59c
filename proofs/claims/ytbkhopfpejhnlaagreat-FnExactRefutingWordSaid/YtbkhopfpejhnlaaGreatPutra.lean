import Derived.Test.YtbkhopfpejhnlaaGreatAbsRra
import Derived.Test.YtbkhopfpejhnlaaGreatAbs12ra
import Derived.Test.YtbkhopfpejhnlaaGreatAbs13ra
set_option linter.unusedVariables false
set_option linter.unusedSimpArgs false
namespace Go.Q
open Go.RowKit
end Go.Q
namespace Go.Q
open Go.RowKit
section
variable {P : Program} {ops : Array Oper} {o : Oper} {σ : St} {q : Bool}
end
end Go.Q
namespace Go.Q
open Go.RowKit
section
variable {P : Program} {ops : Array Oper} {o : Oper} {σ : St}
theorem R_load_hd {d nid hid k : Nat} {c0 : Value} {rows : List (List T)} (h : Op1 P ops o σ (σ.put o.dst (true, .a (.one (.t (.v c0)))))) (hdst : o.dst = some d) (hh : look σ.res hid = some (.hdr (some nid) c0)) (hs : look σ.res nid = some (.row k rows)) :
 Op1 P ops o σ (σ.put o.dst (true, .a (.one (.rf nid)))) := fun w0 a w hr K Q hK => h w0 a w hr K Q fun a' w' hr' => hK a' w' (by
 rw [hdst] at hr' ⊢
 obtain ⟨I, g⟩ := hr'
 refine ⟨I, g.ext, g.defers, g.size, fun i x hi => ?_, g.res, g.old, g.lt, g.own, g.apart⟩
 have hi2 : look ((d, (true, S.a (.one (.rf nid)))) :: σ.slots) i = some x := hi
 clear hi
 rw [look_cons] at hi2
 by_cases e : d = i
 · subst e
   rw [if_pos rfl] at hi2
   cases hi2
   have h1 : VS I w' (true, .a (.one (.t (.v c0)))) (a'.tmps.getD d undef) := g.slots d _ (by show look ((d, _) :: σ.slots) d = _; rw [look_cons, if_pos rfl])
   obtain ⟨G, k1, _⟩ : VE I w' (.t (.v c0)) (a'.tmps.getD d undef) := h1
   simp only [C] at k1
   have k2 : I.hd nid = c0 := (g.res _ _ hh).2 nid rfl
   have hC : C true w' (.sl k rows) (I.hd nid) (I.F nid) := g.res nid _ hs
   simp only [C] at hC
   obtain ⟨a1, l1, c1, e1, _⟩ := hC
   exact show VE I w' (.rf nid) _ from ⟨by rw [k1.1, k2], a1, l1, c1, by rw [k1.1, ← k2, e1]⟩
 · rw [if_neg e] at hi2
   exact g.slots i x (by show look ((d, _) :: σ.slots) i = _; rw [look_cons, if_neg e]; exact hi2))
theorem R_load_hdr {d nid hid k2 : Nat} {c0 : Value} {rows2 : List (List T)} {id k i p : Nat} {t : TypeId} {x : Operand} {rows : List (List T)} {row : List T} {ag : Bool} {n : Nat} (ho : o.op = .load t x) (hg : Grd ops o σ true) (hd : o.dst.all (fun d => Nat.blt d σ.n) = true) (hx : Get σ true x (.one (.pr id k i p))) (hs : look σ.res id = some (.row k rows)) (hi : rows[i]? = some row) (ht : tyB P t ag n = true)
 (hn : Nat.ble (p + n) row.length = true) (h1 : (ag || Nat.beq n 1) = true) (hc : mkA ag (((row.drop p).take n).map (toE id)) = .one (.t (.v c0))) (hdst : o.dst = some d) (hh : look σ.res hid = some (.hdr (some nid) c0)) (hs2 : look σ.res nid = some (.row k2 rows2)) :
 Op1 P ops o σ (σ.put o.dst (true, .a (.one (.rf nid)))) :=
 R_load_hd (c0 := c0) (by have := R_load_pr ho hg hd hx hs hi ht hn h1; rw [hc] at this; exact this) hdst hh hs2
end
end Go.Q
namespace Go.Q
open Go.RowKit
section
variable {P : Program} {ops : Array Oper} {o : Oper} {σ : St}
theorem R_listc {t e : TypeId} {bytes id k : Nat} {z : Value} {x : Operand} {rows : List (List T)} (ho : o.op = .buildSlice t 1 (numbered 0 [x]).toArray) (hg : o.guard = none) (hd : o.dst.all (fun d => Nat.blt d σ.n) = true) (hx : Get σ true x (.one (.rf id))) (hs : look σ.res id = some (.row k rows))
 (hu : P.underlying t = some (.slice e)) (hi : (P.info? e).map (fun i => (i.zero, i.size, i.bytes)) = some (some z, 1, bytes)) :
 Op1 P ops o σ ((σ.chg id (.row 1 [[.sl k rows]])).put o.dst (true, .a (.one (.rf id)))) :=
 .eff hg fun w0 a w ⟨I, hr⟩ => by
  obtain ⟨cs, hrun, g1, g2, g3, g4, g5⟩ := run_buildSlice (xs := [x]) (es := [[.rf id]]) hr ho (.cons hx rfl rfl .nil) hu hi rfl
  obtain ⟨c, cr, rfl, hv, hnil⟩ : ∃ c cr, cs = c :: cr ∧ VE I w (.rf id) c ∧ VEs I w [] cr := g1
  have hnil : cr = [] := hnil
  subst hnil
  obtain ⟨hv, _⟩ := hv
  subst hv
  have hC : C true w (.sl k rows) (I.hd id) (I.F id) := hr.res id _ hs
  have own := hr.own id _ hs
  have hx1 : Ext w (w.alloc (.cells [I.hd id].toArray e)) := (Ext.refl w).alloc _
  have hgn := heap_alloc_new w (.cells [I.hd id].toArray e)
  have hlt : ∀ b ∈ I.F id, b ≠ w.heap.size := fun b hb => by have := (hr.lt id b hb).1; omega
  have hr2 := hr.chg hs ((Chg.refl w _).later hx1) (G := w.heap.size :: I.F id) (u := .slice (some ⟨w.heap.size, 0, none⟩) 1 1) (r := .row 1 [[.sl k rows]]) ⟨List.nodup_cons.2 ⟨fun hm => hlt _ hm rfl, own.1⟩, fun b hb => by
   rcases List.mem_cons.1 hb with rfl | hb
   · exact ⟨.inl hr.ext.size, by simp, ⟨_, e, hgn⟩, .inr (.inl (Nat.le_refl _))⟩
   · exact ⟨(own.2 b hb).1, Nat.lt_of_lt_of_le (hr.lt id b hb).1 hx1.size, ((own.2 b hb).2).ext hx1, .inl hb⟩⟩ (by
   show C true _ _ _ _
   simp only [Ip.set, if_true]
   unfold C
   refine ⟨_, _, _, rfl, rfl, Nat.le_refl _, by unfold maxLen; omega, .inr ⟨w.heap.size, 0, I.F id, rfl, rfl, by simp, fun _ => ⟨rfl, _, e, hgn, rfl⟩, Rws.of (xs := [I.hd id]) (by simp) ?_ fun j u hj => ?_⟩⟩
   · simp only [List.flatten_cons, List.flatten_nil, List.append_nil, Cs]
     exact ⟨I.hd id, [], I.F id, [], rfl, hC.mono hx1, ⟨rfl, rfl⟩, by simp⟩
   · simp only [World.cell?, hgn]; simpa using hj)
  exact ⟨_, _, hrun, _, hr2.put hd ⟨by simp [Ip.set], _, _, _, rfl⟩⟩
end
end Go.Q
namespace Go.Q
open Go.RowKit
theorem Le.putR {σ : St} {nid hid id k i p k2 : Nat} {c0 : Value} {rows rows2 : List (List T)} {row : List T} (hh : look σ.res hid = some (.hdr (some nid) c0)) (hn : look σ.res nid = some (.row k2 rows2)) (hs : look σ.res id = some (.row k rows)) (hi : rows[i]? = some row) (hp : row[p]? = some (.v c0))
 (e1 : Nat.beq id nid = false) (e2 : Nat.beq id hid = false) (e3 : Nat.beq nid hid = false) : Le σ (((σ.kill hid).kill nid).upd id (.row k (rows.set i (row.take p ++ .sl k2 rows2 :: row.drop (p + 1))))) := by
 rintro w0 a w ⟨I, hr⟩
 have hc : I.hd nid = c0 := (hr.res _ _ hh).2 nid rfl
 have hC2 : C true w (.sl k2 rows2) (I.hd nid) (I.F nid) := hr.res nid _ hn
 have own2 := hr.own nid _ hn
 have ap := hr.apart id nid (beq_ne e1)
 obtain ⟨q1, _, _⟩ := hr.kill hh
 have hn' := look_kill (beq_ne e3) hn
 obtain ⟨q2, qf, _⟩ := q1.kill hn'
 have hs' := look_kill (beq_ne e1) (look_kill (beq_ne e2) hs)
 have hC : C true w (.sl k rows) _ _ := hr.res id _ hs
 have own := hr.own id _ hs
 simp only [C] at hC
 obtain ⟨a0, len, cap, g1, g2, g3, g4, g5⟩ := hC
 have hlti : i < rows.length := (List.getElem?_eq_some_iff.1 hi).1
 rcases g5 with ⟨g5, _⟩ | ⟨g, off, Gr, rfl, hF, g6, g7, g8⟩
 · omega
 obtain ⟨rfl, cur, e, hcur, hcs⟩ := g7 trivial
 have hF2 : ((I.set hid [] (I.hd hid) (I.B hid)).set nid [] ((I.set hid [] (I.hd hid) (I.B hid)).hd nid) ((I.set hid [] (I.hd hid) (I.B hid)).B nid)).F id = g :: Gr := by
  simp only [Ip.set, if_neg (beq_ne e1), if_neg (beq_ne e2)]; exact hF
 have hF1 : (I.set hid [] (I.hd hid) (I.B hid)).F nid = I.F nid := by simp only [Ip.set, if_neg (beq_ne e3)]
 have hhd : ((I.set hid [] (I.hd hid) (I.B hid)).set nid [] ((I.set hid [] (I.hd hid) (I.B hid)).hd nid) ((I.set hid [] (I.hd hid) (I.B hid)).B nid)).hd id = I.hd id := by
  simp only [Ip.set, if_neg (beq_ne e1), if_neg (beq_ne e2)]
 rw [hF] at own ap
 obtain ⟨u1, xs, u2, u3, u4⟩ := g8.flat
 simp only [Nat.zero_add] at u4
 obtain ⟨p1, _⟩ := set_split (.v c0 : T) hp
 have hrk : row.length = k := u1 row (List.mem_of_getElem? hi)
 have hpl : p < row.length := (List.getElem?_eq_some_iff.1 hp).1
 have s1 := (set_split row hi).1
 have x0 : rows.flatten = ((rows.take i).flatten ++ row.take p) ++ ([.v c0] ++ (row.drop (p + 1) ++ (rows.drop (i + 1)).flatten)) := by
  conv => lhs; rw [s1, p1]
  simp
 rw [x0] at u2
 obtain ⟨x1, x23, F1, F23, rfl, rfl, v1, v2, v3⟩ := u2.split
 obtain ⟨x2, x3, F2, F3, rfl, rfl, v4, v5, v6⟩ := v2.split
 match x2, v6 with
 | [c], _ =>
 rw [Cs] at v4
 obtain ⟨c', cr, G1, G2, ec, y1, y2, rfl⟩ := v4
 cases ec
 rw [Cs] at y2
 obtain ⟨_, rfl⟩ := y2
 simp only [C] at y1
 obtain ⟨rfl, rfl, _⟩ := y1
 simp only [List.nil_append, List.append_nil] at *
 have hnd := List.nodup_cons.1 own.1
 obtain ⟨d1, d3, d13⟩ := List.nodup_append.1 hnd.2
 have apb : ∀ b, b ∈ g :: (F1 ++ F3) → b ∉ I.F nid := fun b hb => ap b hb
 refine ⟨_, q2.upd (G := g :: (F1 ++ (I.F nid ++ F3))) (r := .row k (rows.set i (row.take p ++ .sl k2 rows2 :: row.drop (p + 1)))) hs' (Chg.refl w _) ⟨List.nodup_cons.2 ⟨fun hm => ?_, List.nodup_append.2 ⟨d1, List.nodup_append.2 ⟨own2.1, d3, fun b hb b' hb' ee => ?_⟩, fun b hb b' hb' ee => ?_⟩⟩, fun b hb => ?_⟩ ?_⟩
 · rcases List.mem_append.1 hm with hm | hm
   · exact hnd.1 (by simp [hm])
   · rcases List.mem_append.1 hm with hm | hm
     · exact apb g (by simp) hm
     · exact hnd.1 (by simp [hm])
 · subst ee
   exact apb b (by simp [hb']) hb
 · subst ee
   rcases List.mem_append.1 hb' with hb' | hb'
   · exact apb b (by simp [hb]) hb'
   · exact d13 b hb b hb' rfl
 · have hcase : b ∈ g :: (F1 ++ F3) ∨ b ∈ I.F nid := by
    rcases List.mem_cons.1 hb with rfl | hb
    · exact .inl (by simp)
    · rcases List.mem_append.1 hb with hb | hb
      · exact .inl (by simp [hb])
      · rcases List.mem_append.1 hb with hb | hb
        · exact .inr hb
        · exact .inl (by simp [hb])
   rcases hcase with hb | hb
   · obtain ⟨o1, cc, ee, o2⟩ := own.2 b hb
     exact ⟨o1, (Array.getElem?_eq_some_iff.1 o2).1, ⟨cc, ee, o2⟩, .inl (by rw [hF2]; exact hb)⟩
   · obtain ⟨o1, cc, ee, o2⟩ := own2.2 b hb
     exact ⟨o1, (Array.getElem?_eq_some_iff.1 o2).1, ⟨cc, ee, o2⟩, .inr (.inr (qf b (by rw [hF1]; exact hb)))⟩
 · show C true _ _ _ _
   simp only [Ip.set, if_true]
   rw [if_neg (beq_ne e1), if_neg (beq_ne e2)]
   unfold C
   refine ⟨_, _, _, g1, by simpa using g2, g3, g4, .inr ⟨g, 0, F1 ++ (I.F nid ++ F3), rfl, rfl, g6, fun _ => ⟨rfl, cur, e, hcur, hcs⟩, Rws.of (xs := x1 ++ ([I.hd nid] ++ x3)) (fun r hm => ?_) ?_ fun j u hj => ?_⟩⟩
   · rcases List.mem_or_eq_of_mem_set hm with hm | rfl
     · exact u1 r hm
     · simp only [List.length_append, List.length_take, List.length_cons, List.length_drop]
       omega
   · rw [(set_split (row.take p ++ .sl k2 rows2 :: row.drop (p + 1)) hi).2]
     have ef : (rows.take i ++ (row.take p ++ .sl k2 rows2 :: row.drop (p + 1)) :: rows.drop (i + 1)).flatten = ((rows.take i).flatten ++ row.take p) ++ ([.sl k2 rows2] ++ (row.drop (p + 1) ++ (rows.drop (i + 1)).flatten)) := by simp
     rw [ef]
     refine v1.append (Cs.append ?_ v5)
     simp only [Cs]
     exact ⟨_, _, _, _, rfl, hC2, ⟨rfl, rfl⟩, by simp⟩
   · rw [hc] at hj
     simp only [Nat.zero_add]
     exact u4 j u hj
end Go.Q
