import Derived.Test.YtoealglkenhphaaGreatAbs16xc
import Derived.Test.YtoealglkenhphaaGreatAbsRxc
import Derived.WideLaws
set_option linter.unusedVariables false
set_option linter.unusedSimpArgs false
namespace Go.Q
open Go.RowKit
section
variable {P : Program} {ops : Array Oper} {o : Oper} {σ : St} {q : Bool}
variable {w0 : Base} {Q : Exit → St → Prop} {n : Nat} {sl : List (Nat × (Bool × S))} {rs : List (Nat × R)} {l : List Oper}
theorem RelI.take {I : Ip} {w : World} {a : Act} {id k i p k2 : Nat} (nid : Nat) {rows rows2 : List (List T)} {row : List T} (hr : RelI I w0 ⟨n, sl, rs⟩ a w) (hs : look rs id = some (.row k rows)) (hi : rows[i]? = some row) (hp : row[p]? = some (.sl k2 rows2))
 (hf : ∀ c0, St.has ⟨n, puvS id sl, updR id (.row k (rows.set i (row.take p ++ .v c0 :: row.drop (p + 1)))) rs⟩ nid = false) :
 ∃ c I', (∃ a l k, c = .slice a l k) ∧ RelI I' w0 ⟨n, puvS id sl, (nid, .row k2 rows2) :: updR id (.row k (rows.set i (row.take p ++ .v c :: row.drop (p + 1)))) rs⟩ a w ∧ I'.hd nid = c ∧ ∀ g n' m', I.hd id = .slice (some ⟨g, 0, none⟩) n' m' → w.cell? ⟨g, i * k + p, none⟩ = some c := by
 have hC : C true w (.sl k rows) _ _ := hr.res id _ hs
 have own := hr.own id _ hs
 simp only [C] at hC
 obtain ⟨a0, len, cap, g1, g2, g3, g4, g5⟩ := hC
 have hlti : i < rows.length := (List.getElem?_eq_some_iff.1 hi).1
 rcases g5 with ⟨g5, _⟩ | ⟨g, off, Gr, rfl, hF, g6, g7, g8⟩
 · omega
 obtain ⟨rfl, cur, e, hcur, hcs⟩ := g7 trivial
 have hg1 := g1
 rw [hF] at own
 obtain ⟨u1, xs, u2, u3, u4⟩ := g8.flat
 simp only [Nat.zero_add] at u4
 obtain ⟨p1, _⟩ := set_split (.sl k2 rows2 : T) hp
 have hrk : row.length = k := u1 row (List.mem_of_getElem? hi)
 have hpl : p < row.length := (List.getElem?_eq_some_iff.1 hp).1
 have s1 := (set_split row hi).1
 have e1 : rows.flatten = ((rows.take i).flatten ++ row.take p) ++ ([.sl k2 rows2] ++ (row.drop (p + 1) ++ (rows.drop (i + 1)).flatten)) := by
  conv => lhs; rw [s1, p1]
  simp
 rw [e1] at u2
 obtain ⟨x1, x23, F1, F23, rfl, rfl, v1, v2, v3⟩ := u2.split
 obtain ⟨x2, x3, F2, F3, rfl, rfl, v4, v5, v6⟩ := v2.split
 match x2, v6 with
 | [c], _ =>
 have v4' : C true w (.sl k2 rows2) c F2 := by
  rw [Cs] at v4
  obtain ⟨c', cr, G1, G2, e, h1, h2, rfl⟩ := v4
  cases e
  rw [Cs] at h2
  obtain ⟨_, rfl⟩ := h2
  simpa using h1
 have hfl : ((rows.take i).flatten).length = i * k := by
  have key : ∀ (l : List (List T)), (∀ r ∈ l, r.length = k) → l.flatten.length = l.length * k := by
   intro l
   induction l with
   | nil => intro _; simp
   | cons r l ih => intro h; rw [List.flatten_cons, List.length_append, ih fun r hr => h r (by simp [hr]), h r (by simp), List.length_cons, Nat.succ_mul]; omega
  rw [key _ fun r hr => u1 r (List.mem_of_mem_take hr), List.length_take, Nat.min_eq_left (Nat.le_of_lt hlti)]
 have lx1 : x1.length = i * k + p := by rw [v3, List.length_append, hfl, List.length_take]; omega
 have hc := u4 (i * k + p) c (by rw [← lx1, List.getElem?_append_right (Nat.le_refl _), Nat.sub_self]; rfl)
 have hsl : ∃ a l k, c = .slice a l k := by
  simp only [C] at v4'
  obtain ⟨a1, l1, c1, e, _⟩ := v4'
  exact ⟨_, _, _, e⟩
 have hnd := List.nodup_cons.1 own.1
 obtain ⟨d1, d23, d12⟩ := List.nodup_append.1 hnd.2
 obtain ⟨d2, d3, d23'⟩ := List.nodup_append.1 d23
 have inG : ∀ b, b ∈ g :: (F1 ++ F3) → b ∈ g :: (F1 ++ (F2 ++ F3)) ∧ b ∉ F2 := fun b hb => by
  rcases List.mem_cons.1 hb with rfl | hb
  · exact ⟨by simp, fun hm => hnd.1 (by simp [hm])⟩
  · rcases List.mem_append.1 hb with hb | hb
    · exact ⟨by simp [hb], fun hm => d12 b hb b (by simp [hm]) rfl⟩
    · exact ⟨by simp [hb], fun hm => d23' b hm b hb rfl⟩
 have r1 := hr.upd (G := g :: (F1 ++ F3)) (r := .row k (rows.set i (row.take p ++ .v c :: row.drop (p + 1)))) hs (Chg.refl w _) ⟨List.nodup_cons.2 ⟨fun hm => ?_, List.nodup_append.2 ⟨d1, d3, fun b hb b' hb' e => ?_⟩⟩, fun b hb => ?_⟩ ?_
 · have r2 := r1.addF (hf c) (G := F2) (u := c) (b := 0) (r := .row k2 rows2) d2 (fun b hb => ?_) (by
    show C true w (.sl k2 rows2) _ _
    simp only [Ip.set, if_true]
    exact v4')
   · refine ⟨c, _, hsl, r2, by simp only [Ip.set, if_true], fun g0 n0 m0 h0 => ?_⟩
     rw [hg1] at h0
     cases h0
     exact hc
   · obtain ⟨o1, cc, ee, o2⟩ := own.2 b (by simp [hb])
     have hlt : b < w.heap.size := (Array.getElem?_eq_some_iff.1 o2).1
     refine ⟨o1, hlt, ⟨cc, ee, o2⟩, fun hz => (hr.lt id b (by rw [hF]; simp [hb])).2 hz, fun j hj => ?_⟩
     by_cases ej : j = id
     · simp only [Ip.set, if_pos ej] at hj
       exact (inG b hj).2 hb
     · simp only [Ip.set, if_neg ej] at hj
       exact hr.apart j id ej b hj (by rw [hF]; simp [hb])
 · rcases List.mem_append.1 hm with hm | hm
   · exact hnd.1 (by simp [hm])
   · exact hnd.1 (by simp [hm])
 · subst e
   exact d12 b hb b (by simp [hb']) rfl
 · obtain ⟨hin, _⟩ := inG b hb
   obtain ⟨o1, cc, ee, o2⟩ := own.2 b hin
   exact ⟨o1, (Array.getElem?_eq_some_iff.1 o2).1, ⟨cc, ee, o2⟩, .inl (by rw [hF]; exact hin)⟩
 · show C true _ _ _ _
   simp only [Ip.set, if_true]
   unfold C
   refine ⟨_, _, _, hg1, by simpa using g2, g3, g4, .inr ⟨g, 0, F1 ++ F3, rfl, rfl, g6, fun _ => ⟨rfl, cur, e, hcur, hcs⟩, Rws.of (xs := x1 ++ ([c] ++ x3)) (fun r hm => ?_) ?_ fun j u hj => ?_⟩⟩
   · rcases List.mem_or_eq_of_mem_set hm with hm | rfl
     · exact u1 r hm
     · simp only [List.length_append, List.length_take, List.length_cons, List.length_drop]
       omega
   · rw [(set_split (row.take p ++ .v c :: row.drop (p + 1)) hi).2]
     have ef : (rows.take i ++ (row.take p ++ .v c :: row.drop (p + 1)) :: rows.drop (i + 1)).flatten = ((rows.take i).flatten ++ row.take p) ++ ([.v c] ++ (row.drop (p + 1) ++ (rows.drop (i + 1)).flatten)) := by simp
     rw [ef]
     refine v1.append (Cs.append (F := []) ?_ v5)
     unfold Cs
     obtain ⟨a1, l1, c1, rfl⟩ := hsl
     exact ⟨_, [], [], [], rfl, by unfold C; exact ⟨rfl, rfl, rfl⟩, by unfold Cs; exact ⟨rfl, rfl⟩, rfl⟩
   · rw [Nat.zero_add]
     exact u4 j u hj
theorem AW.takeR {code : Code} {id k i p k2 : Nat} (nid hid : Nat) {rows rows2 : List (List T)} {row : List T} (hs : look rs id = some (.row k rows)) (hi : rows[i]? = some row) (hp : row[p]? = some (.sl k2 rows2))
 (hf : ∀ c0, St.has ⟨n, puvS id sl, updR id (.row k (rows.set i (row.take p ++ .v c0 :: row.drop (p + 1)))) rs⟩ nid = false)
 (hf2 : ∀ c0, St.has ⟨n, puvS id sl, (nid, .row k2 rows2) :: updR id (.row k (rows.set i (row.take p ++ .v c0 :: row.drop (p + 1)))) rs⟩ hid = false)
 (h : ∀ c0, AW P w0 code Q ⟨n, puvS id sl, (hid, .hdr (some nid) c0) :: (nid, .row k2 rows2) :: updR id (.row k (rows.set i (row.take p ++ .v c0 :: row.drop (p + 1)))) rs⟩) : AW P w0 code Q ⟨n, sl, rs⟩ := fun a w ⟨I, hr⟩ => by
 obtain ⟨c, I', h1, h2, h3, h4⟩ := hr.take nid hs hi hp hf
 have hne : nid ≠ hid := fun e => by
  have := hf2 c
  simp [St.has, e, Nat.beq_refl] at this
 refine h c a w ⟨_, h2.addF (id := hid) (G := []) (u := undef) (b := 0) (r := .hdr (some nid) c) (hf2 c) List.nodup_nil (by simp) ⟨by simp [Ip.set], fun j hj => ?_⟩⟩
 cases hj
 simp only [Ip.set, if_neg hne]
 exact h3
end
end Go.Q
namespace Go.Q
open Go.RowKit
section
variable {P : Program} {ops : Array Oper} {o : Oper} {σ : St} {q : Bool}
theorem C.hdr {o : Bool} {w : World} {k : Nat} {rows : List (List T)} {a : Option Addr} {n m : Nat} {F : List Nat} (h : C o w (.sl k rows) (.slice a n m) F) : rows.length = n ∧ n ≤ m ∧ m ≤ maxLen := by
 simp only [C] at h
 obtain ⟨a', n', m', e, h1, h2, h3, _⟩ := h
 cases e
 exact ⟨h1, h2, h3⟩
theorem C.blk {w : World} {k : Nat} {rows : List (List T)} {a : Option Addr} {n m : Nat} {F : List Nat} (h : C true w (.sl k rows) (.slice a n m) F) : (m = 0 ∧ F = [] ∧ rows = []) ∨ ∃ g G cur e, a = some ⟨g, 0, none⟩ ∧ F = g :: G ∧ w.heap[g]? = some (.cells cur e (0, 0)) ∧ cur.size = m * k ∧ Rws true w g k 0 rows G := by
 simp only [C] at h
 obtain ⟨a', n', m', e, h1, h2, h3, h4⟩ := h
 cases e
 rcases h4 with ⟨h4, rfl, h5⟩ | ⟨b, off, G, rfl, rfl, h6, h7, h8⟩
 · exact .inl ⟨h5 trivial, rfl, List.eq_nil_of_length_eq_zero (by omega)⟩
 · obtain ⟨rfl, cur, e, h9, h10⟩ := h7 trivial
   exact .inr ⟨b, G, cur, e, rfl, rfl, h9, h10, h8⟩
theorem R_len_tl {id k j : Nat} {rows : List (List T)} {x : Operand} {t e : TypeId} (ho : o.op = .call { callee := .builtin .len, args := #[x], argTypes := #[t] }) (hg : Grd ops o σ q) (hd : o.dst.all (fun d => Nat.blt d σ.n) = true)
 (hx : Get σ q x (.one (.tl id k j))) (hs : look σ.res id = some (.row k rows)) (hu : P.underlying t = some (.slice e)) : Op1 P ops o σ (σ.put o.dst (q, .a (.one (.t (.v (.int .i64 ((rows.length - j : Nat) : Int))))))) :=
 .val hg hd fun I w0 a w hr hq => by
  obtain ⟨a0, a', n, m, h1, h2, h3, h4, h5⟩ : VE I w (.tl id k j) (a.eval x) := hx.va hr hq
  have hC : C true w (.sl k rows) (I.hd id) (I.F id) := hr.res id _ hs
  rw [h1] at hC
  obtain ⟨e1, e2, e3⟩ := hC.hdr
  refine ⟨.int .i64 ((rows.length - j : Nat) : Int), ?_, [], by unfold C; exact ⟨rfl, rfl, rfl⟩, by simp⟩
  simp [execOp, ho, resolve, invoke, builtin, Builtin.len_, h2, run_underlying hu, Builtin.lenOf, e1]
  rfl
theorem R_indexAddr_tl {id k j : Nat} {t e : TypeId} {x y : Operand} {n : Int} {ag : Bool} {rows : List (List T)} {row : List T} (ho : o.op = .indexAddr t x y) (hg : Grd ops o σ q) (hd : o.dst.all (fun d => Nat.blt d σ.n) = true) (hx : Get σ q x (.one (.tl id k j)))
 (hs : look σ.res id = some (.row k rows)) (hy : Get σ q y (.one (.t (.v (.int .i64 n))))) (hu : P.underlying t = some (.slice e)) (hk : tyB P e ag k = true) (hi : q = true → 0 ≤ n ∧ rows[j + n.toNat]? = some row) : Op1 P ops o σ (σ.put o.dst (q, .a (.one (.pr id k (j + n.toNat) 0)))) :=
 .val hg hd fun I w0 a w hr hq => by
  obtain ⟨a0, a', N, M, h1, h2, h3, h4, h5⟩ : VE I w (.tl id k j) (a.eval x) := hx.va hr hq
  have hC : C true w (.sl k rows) (I.hd id) (I.F id) := hr.res id _ hs
  rw [h1] at hC
  obtain ⟨e1, e2, e3⟩ := hC.hdr
  obtain ⟨h0, hi⟩ := hi hq
  have hlt : j + n.toNat < rows.length := (List.getElem?_eq_some_iff.1 hi).1
  obtain ⟨g, rfl, rfl⟩ := h5 (by omega)
  have hn : n < ((N - j : Nat) : Int) := by omega
  refine ⟨.pointer (some ⟨g, j * k + n.toNat * k, none⟩), ?_, g, N, M, h1, by rw [Nat.add_mul]; simp⟩
  simp [execOp, ho, hy.int hr hq, h2, Instr.indexAt, asIntOf, run_underlying hu, h0, hn, tyB_size hk, Addr.add_lit]
theorem R_slice_rf {id k m : Nat} {t e : TypeId} {x : Operand} {lo : Option Operand} {ag : Bool} {rows : List (List T)} (ho : o.op = .slice t x lo none none) (hg : Grd ops o σ q) (hd : o.dst.all (fun d => Nat.blt d σ.n) = true) (hx : Get σ q x (.one (.rf id)))
 (hs : look σ.res id = some (.row k rows)) (hl : Bnd σ q lo 0 m) (hu : P.underlying t = some (.slice e)) (hk : tyB P e ag k = true) (hb : q = true → m ≤ rows.length) : Op1 P ops o σ (σ.put o.dst (q, .a (.one (.tl id k m)))) :=
 .val hg hd fun I w0 a w hr hq => by
  obtain ⟨h1, a0, N, M, h2⟩ : VE I w (.rf id) (a.eval x) := hx.va hr hq
  have hC : C true w (.sl k rows) (I.hd id) (I.F id) := hr.res id _ hs
  rw [← h1, h2] at hC
  obtain ⟨e1, e2, e3⟩ := hC.hdr
  have hb := hb hq
  have hrun : (Instr.sliceAt t (.slice a0 N M) (lo.map a.eval) none none).run P w = .ok (.slice (if M = m then a0 else a0.map (·.add (m * k))) (N - m) (M - m)) w := by
   have b1 : m ≤ M := by omega
   have b2 : m ≤ N := by omega
   rcases hl.val hr hq with ⟨h6, rfl⟩ | h6 <;> rw [h6] <;> simp [Instr.sliceAt, Instr.slice, run_underlying hu, Instr.sliceBounds, Instr.sliceBound, asIntOf, tyB_size hk, b1, b2, e2]
  refine ⟨.slice (if M = m then a0 else a0.map (·.add (m * k))) (N - m) (M - m), by simp [execOp, ho, h2, hrun], a0, (if M = m then a0 else a0.map (·.add (m * k))), N, M, by rw [← h1, h2], rfl, by omega, e2, fun hm => ?_⟩
  rcases hC.blk with ⟨h3, _⟩ | ⟨g, G, cur, e, rfl, _⟩
  · omega
  · refine ⟨g, rfl, ?_⟩
    rw [if_neg (by omega)]
    simp [Addr.add_lit]
def OpE (P : Program) (ops : Array Oper) (o : Oper) (σ : St) (Φ : St → Prop) : Prop := ∀ w0 a w, Rel w0 σ a w → ∀ (K : Act → World → Prop) (Q : Exit → Act → World → Prop), (∀ σ' a' w', Φ σ' → Rel w0 σ' a' w' → K a' w') →
 if Region.wanted o (yielded ops a.tmps) then o.wp P a w K Q else K (a.put o.dst undef) w
theorem OpE.eff {Φ : St → Prop} (hg : o.guard = none) (h : ∀ w0 a w, Rel w0 σ a w → ∃ v w' σ', (execOp a.eval o).run P w = .ok (.value v) w' ∧ Φ σ' ∧ Rel w0 σ' (a.put o.dst v) w') : OpE P ops o σ Φ := by
 intro w0 a w hr K Q hK
 simp only [Region.wanted, hg, if_true]
 obtain ⟨v, w', σ', h1, h2, h3⟩ := h w0 a w hr
 unfold Oper.wp
 rw [h1]
 exact hK _ _ _ h2 h3
variable {w0 : Base} {Q : Exit → St → Prop} {n : Nat} {sl : List (Nat × (Bool × S))} {rs : List (Nat × R)} {l : List Oper}
end
end Go.Q
namespace Go.Q
open Go.RowKit
theorem Ms_of {I : Ip} {w : World} {b : Nat} : ∀ (xs : List T) (vs : List Value) (off : Nat), VEs I w (xs.map .t) vs → (∀ j v, vs[j]? = some v → w.cell? ⟨b, off + j, none⟩ = some v) → ∃ G, Ms false w b off xs G ∧ ∀ q ∈ G, I.Z q
 | [], _, _, _, _ => ⟨[], by simp only [Ms], by simp⟩
 | x :: xs, vs, off, ⟨c, cr, e, ⟨G1, k1, k2⟩, h3⟩, hc => by
  subst e
  obtain ⟨G2, g1, g2⟩ := Ms_of xs cr (off + 1) h3 fun j v hj => by
   have := hc (j + 1) v (by simpa using hj)
   rwa [show off + (j + 1) = off + 1 + j by omega] at this
  refine ⟨G1 ++ G2, ?_, fun q hq => ?_⟩
  · simp only [Ms]
    exact ⟨c, G1, G2, hc 0 c rfl, k1, g1, rfl⟩
  · rcases List.mem_append.1 hq with hq | hq
    · exact k2 q hq
    · exact g2 q hq
theorem Le.frz (id d : Nat) {n : Nat} {sl : List (Nat × (Bool × S))} {rs : List (Nat × R)} {xs : List T} {cs : List E} (h1 : look rs id = some (.box cs)) (hcs : cs = xs.map .t) (h2 : look sl d = some (true, .a (.one (.pp id 0)))) :
 Le ⟨n, sl, rs⟩ ⟨n, (d, (true, .a (.one (.t (.ad xs))))) :: ((⟨n, sl, rs⟩ : St).chg id (.hdr none undef)).slots, ((⟨n, sl, rs⟩ : St).chg id (.hdr none undef)).res⟩ := by
 rintro w0 a w ⟨I, hr⟩
 subst hcs
 have hbox := hr.res id _ h1
 obtain ⟨hF, vs, e, hb, hvs⟩ := hbox
 have hpp : VS I w (true, .a (.one (.pp id 0))) (a.tmps.getD d undef) := hr.slots d _ h2
 have hpp : a.tmps.getD d undef = .pointer (some ⟨I.B id, 0, none⟩) := hpp
 have hlt : I.B id < w.heap.size := (Array.getElem?_eq_some_iff.1 hb).1
 have s1 := hr.chg h1 (Chg.refl w _) (G := []) (u := undef) (r := .hdr none undef) ⟨List.nodup_nil, by simp⟩ ⟨by simp [Ip.set], fun i h => by cases h⟩
 have hno : ∀ i, I.B id ∉ (I.set id [] undef (I.B id)).F i := fun i hi => by
  by_cases e : i = id
  · subst e; simp [Ip.set] at hi
  · simp only [Ip.set, if_neg e] at hi
    exact hr.apart i id e _ hi (by rw [hF]; simp)
 have s2 := s1.also (G := [I.B id]) fun b hb' => by
  rw [List.mem_singleton] at hb'; subst hb'
  exact ⟨hlt, hno⟩
 obtain ⟨G, g1, g2⟩ := Ms_of (b := I.B id) xs vs 0 hvs fun j v hj => by
  rw [Nat.zero_add]
  simp [World.cell?, hb, hj]
 refine ⟨_, ⟨s2.ext, s2.defers, s2.size, fun i x hx => ?_, s2.res, s2.old, s2.lt, s2.own, s2.apart⟩⟩
 rw [look_cons] at hx
 by_cases ei : d = i
 · rw [if_pos ei] at hx
   cases hx
   subst ei
   refine ⟨I.B id :: G, ?_, fun b hb' => ?_⟩
   · rw [hpp]
     simp only [C]
     exact ⟨I.B id, 0, G, rfl, rfl, hlt, g1⟩
   · rcases List.mem_cons.1 hb' with rfl | hb'
     · exact .inr (by simp)
     · exact .inl (g2 b hb')
 · rw [if_neg ei] at hx
   exact s2.slots i x hx
end Go.Q
namespace Go.Q
open Go.RowKit
section
variable {P : Program} {ops : Array Oper} {o : Oper} {σ : St} {q : Bool}
end
end Go.Q
namespace Go.Q
open Go.RowKit
section
variable {P : Program} {ops : Array Oper} {o : Oper} {σ : St}
end
end Go.Q
namespace Go.Q
open Go.RowKit
section
variable {P : Program} {ops : Array Oper} {o : Oper} {σ : St} {q : Bool}
end
end Go.Q
namespace Go.Q
open Go.RowKit
section
variable {P : Program} {ops : Array Oper} {o : Oper} {σ : St} {q : Bool}
end
end Go.Q
namespace Go.Q
open Go.RowKit
section
variable {P : Program} {ops : Array Oper} {o : Oper} {σ : St} {q : Bool}
end
end Go.Q
namespace Go.Q
open Go.RowKit
section
variable {P : Program} {ops : Array Oper} {o : Oper} {σ : St}
inductive GetL (σ : St) : List Operand → List E → Prop where
 | nil : GetL σ [] []
 | cons {x : Operand} {e : E} {l : List Operand} {es : List E} (hx : Get σ true x (.one e)) (h : GetL σ l es) : GetL σ (x :: l) (e :: es)
end
end Go.Q
namespace Go.Q
open Go.RowKit
theorem Le.frzR (id d : Nat) {n k : Nat} {sl : List (Nat × (Bool × S))} {rs : List (Nat × R)} {rows : List (List T)} (h1 : look rs id = some (.row k rows)) (h2 : look sl d = some (true, .a (.one (.rf id)))) :
 Le ⟨n, sl, rs⟩ ⟨n, (d, (true, .a (.one (.t (.sl k rows))))) :: ((⟨n, sl, rs⟩ : St).chg id (.hdr none undef)).slots, ((⟨n, sl, rs⟩ : St).chg id (.hdr none undef)).res⟩ := by
 rintro w0 a w ⟨I, hr⟩
 have hC : C true w (.sl k rows) (I.hd id) (I.F id) := hr.res id _ h1
 have hv : VS I w (true, .a (.one (.rf id))) (a.tmps.getD d undef) := hr.slots d _ h2
 obtain ⟨hv, _⟩ : VE I w (.rf id) (a.tmps.getD d undef) := hv
 have s1 := hr.chg h1 (Chg.refl w _) (G := []) (u := undef) (r := .hdr none undef) ⟨List.nodup_nil, by simp⟩ ⟨by simp [Ip.set], fun i h => by cases h⟩
 have s2 := s1.also (G := I.F id) fun b hb => by
  refine ⟨(hr.lt id b hb).1, fun i hi => ?_⟩
  by_cases e : i = id
  · subst e; simp [Ip.set] at hi
  · simp only [Ip.set, if_neg e] at hi
    exact hr.apart i id e _ hi hb
 refine ⟨_, ⟨s2.ext, s2.defers, s2.size, fun i x hx => ?_, s2.res, s2.old, s2.lt, s2.own, s2.apart⟩⟩
 rw [look_cons] at hx
 by_cases ei : d = i
 · rw [if_pos ei] at hx
   cases hx
   subst ei
   exact ⟨I.F id, by rw [hv]; exact hC.read, fun b hb => .inr hb⟩
 · rw [if_neg ei] at hx
   exact s2.slots i x hx
theorem Le.frzRe (id d : Nat) {n k : Nat} {sl : List (Nat × (Bool × S))} {rs : List (Nat × R)} {rows : List (List T)} (rows' : List (List T)) (h0 : rows = rows') (h1 : look rs id = some (.row k rows)) (h2 : look sl d = some (true, .a (.one (.rf id)))) :
 Le ⟨n, sl, rs⟩ ⟨n, (d, (true, .a (.one (.t (.sl k rows'))))) :: ((⟨n, sl, rs⟩ : St).chg id (.hdr none undef)).slots, ((⟨n, sl, rs⟩ : St).chg id (.hdr none undef)).res⟩ := by
 subst h0; exact Le.frzR id d h1 h2
end Go.Q
