import Derived.Test.YtamnfkfjfelbbaaAbs16xw
set_option linter.unusedVariables false
set_option linter.unusedSimpArgs false
namespace Go.Q
open Go.RowKit
section
variable {P : Program} {ops : Array Oper} {o : Oper} {σ : St} {q : Bool}
variable {w0 : Base} {Q : Exit → St → Prop} {n : Nat} {sl : List (Nat × (Bool × S))} {rs : List (Nat × R)} {l : List Oper}
theorem RelI.take {I : Ip} {w : World} {a : Act} {id k i p k2 : Nat} (nid : Nat) {rows rows2 : List (List T)} {row : List T} (hr : RelI I w0 ⟨n, sl, rs⟩ a w) (hs : look rs id = some (.row k rows)) (hi : rows[i]? = some row) (hp : row[p]? = some (.sl k2 rows2))
 (hf : ∀ c0, St.has ⟨n, puvS id sl, updR id (.row k (rows.set i (row.take p ++ .v c0 :: row.drop (p + 1)))) rs⟩ nid = false) :
 ∃ c I', (∃ a l k, c = .slice a l k) ∧ RelI I' w0 ⟨n, puvS id sl, (nid, .row k2 rows2) :: updR id (.row k (rows.set i (row.take p ++ .v c :: row.drop (p + 1)))) rs⟩ a w ∧ I'.hd nid = c ∧ ∀ g n' m', I.hd id = .slice (some ⟨g, 0, none⟩) n' m' → w.cell? ⟨g, i * k + p, none⟩ = some c := by
 have hC : C true w (.sl k rows) _ _ := hr.res id _ hs
 have own := hr.own id _ hs
 simp only [C] at hC
 obtain ⟨a0, len, cap, g1, g2, g3, g4, g5⟩ := hC
 have hlti : i < rows.length := (List.getElem?_eq_some_iff.1 hi).1
 rcases g5 with ⟨g5, _⟩ | ⟨g, off, Gr, rfl, hF, g6, g7, g8⟩
 · omega
 obtain ⟨rfl, cur, e, hcur, hcs⟩ := g7 trivial
 have hg1 := g1
 rw [hF] at own
 obtain ⟨u1, xs, u2, u3, u4⟩ := g8.flat
 simp only [Nat.zero_add] at u4
 obtain ⟨p1, _⟩ := set_split (.sl k2 rows2 : T) hp
 have hrk : row.length = k := u1 row (List.mem_of_getElem? hi)
 have hpl : p < row.length := (List.getElem?_eq_some_iff.1 hp).1
 have s1 := (set_split row hi).1
 have e1 : rows.flatten = ((rows.take i).flatten ++ row.take p) ++ ([.sl k2 rows2] ++ (row.drop (p + 1) ++ (rows.drop (i + 1)).flatten)) := by
  conv => lhs; rw [s1, p1]
  simp
 rw [e1] at u2
 obtain ⟨x1, x23, F1, F23, rfl, rfl, v1, v2, v3⟩ := u2.split
 obtain ⟨x2, x3, F2, F3, rfl, rfl, v4, v5, v6⟩ := v2.split
 match x2, v6 with
 | [c], _ =>
 have v4' : C true w (.sl k2 rows2) c F2 := by
  rw [Cs] at v4
  obtain ⟨c', cr, G1, G2, e, h1, h2, rfl⟩ := v4
  cases e
  rw [Cs] at h2
  obtain ⟨_, rfl⟩ := h2
  simpa using h1
 have hfl : ((rows.take i).flatten).length = i * k := by
  have key : ∀ (l : List (List T)), (∀ r ∈ l, r.length = k) → l.flatten.length = l.length * k := by
   intro l
   induction l with
   | nil => intro _; simp
   | cons r l ih => intro h; rw [List.flatten_cons, List.length_append, ih fun r hr => h r (by simp [hr]), h r (by simp), List.length_cons, Nat.succ_mul]; omega
  rw [key _ fun r hr => u1 r (List.mem_of_mem_take hr), List.length_take, Nat.min_eq_left (Nat.le_of_lt hlti)]
 have lx1 : x1.length = i * k + p := by rw [v3, List.length_append, hfl, List.length_take]; omega
 have hc := u4 (i * k + p) c (by rw [← lx1, List.getElem?_append_right (Nat.le_refl _), Nat.sub_self]; rfl)
 have hsl : ∃ a l k, c = .slice a l k := by
  simp only [C] at v4'
  obtain ⟨a1, l1, c1, e, _⟩ := v4'
  exact ⟨_, _, _, e⟩
 have hnd := List.nodup_cons.1 own.1
 obtain ⟨d1, d23, d12⟩ := List.nodup_append.1 hnd.2
 obtain ⟨d2, d3, d23'⟩ := List.nodup_append.1 d23
 have inG : ∀ b, b ∈ g :: (F1 ++ F3) → b ∈ g :: (F1 ++ (F2 ++ F3)) ∧ b ∉ F2 := fun b hb => by
  rcases List.mem_cons.1 hb with rfl | hb
  · exact ⟨by simp, fun hm => hnd.1 (by simp [hm])⟩
  · rcases List.mem_append.1 hb with hb | hb
    · exact ⟨by simp [hb], fun hm => d12 b hb b (by simp [hm]) rfl⟩
    · exact ⟨by simp [hb], fun hm => d23' b hm b hb rfl⟩
 have r1 := hr.upd (G := g :: (F1 ++ F3)) (r := .row k (rows.set i (row.take p ++ .v c :: row.drop (p + 1)))) hs (Chg.refl w _) ⟨List.nodup_cons.2 ⟨fun hm => ?_, List.nodup_append.2 ⟨d1, d3, fun b hb b' hb' e => ?_⟩⟩, fun b hb => ?_⟩ ?_
 · have r2 := r1.addF (hf c) (G := F2) (u := c) (b := 0) (r := .row k2 rows2) d2 (fun b hb => ?_) (by
    show C true w (.sl k2 rows2) _ _
    simp only [Ip.set, if_true]
    exact v4')
   · refine ⟨c, _, hsl, r2, by simp only [Ip.set, if_true], fun g0 n0 m0 h0 => ?_⟩
     rw [hg1] at h0
     cases h0
     exact hc
   · obtain ⟨o1, cc, ee, o2⟩ := own.2 b (by simp [hb])
     have hlt : b < w.heap.size := (Array.getElem?_eq_some_iff.1 o2).1
     refine ⟨o1, hlt, ⟨cc, ee, o2⟩, fun hz => (hr.lt id b (by rw [hF]; simp [hb])).2 hz, fun j hj => ?_⟩
     by_cases ej : j = id
     · simp only [Ip.set, if_pos ej] at hj
       exact (inG b hj).2 hb
     · simp only [Ip.set, if_neg ej] at hj
       exact hr.apart j id ej b hj (by rw [hF]; simp [hb])
 · rcases List.mem_append.1 hm with hm | hm
   · exact hnd.1 (by simp [hm])
   · exact hnd.1 (by simp [hm])
 · subst e
   exact d12 b hb b (by simp [hb']) rfl
 · obtain ⟨hin, _⟩ := inG b hb
   obtain ⟨o1, cc, ee, o2⟩ := own.2 b hin
   exact ⟨o1, (Array.getElem?_eq_some_iff.1 o2).1, ⟨cc, ee, o2⟩, .inl (by rw [hF]; exact hin)⟩
 · show C true _ _ _ _
   simp only [Ip.set, if_true]
   unfold C
   refine ⟨_, _, _, hg1, by simpa using g2, g3, g4, .inr ⟨g, 0, F1 ++ F3, rfl, rfl, g6, fun _ => ⟨rfl, cur, e, hcur, hcs⟩, Rws.of (xs := x1 ++ ([c] ++ x3)) (fun r hm => ?_) ?_ fun j u hj => ?_⟩⟩
   · rcases List.mem_or_eq_of_mem_set hm with hm | rfl
     · exact u1 r hm
     · simp only [List.length_append, List.length_take, List.length_cons, List.length_drop]
       omega
   · rw [(set_split (row.take p ++ .v c :: row.drop (p + 1)) hi).2]
     have ef : (rows.take i ++ (row.take p ++ .v c :: row.drop (p + 1)) :: rows.drop (i + 1)).flatten = ((rows.take i).flatten ++ row.take p) ++ ([.v c] ++ (row.drop (p + 1) ++ (rows.drop (i + 1)).flatten)) := by simp
     rw [ef]
     refine v1.append (Cs.append (F := []) ?_ v5)
     unfold Cs
     obtain ⟨a1, l1, c1, rfl⟩ := hsl
     exact ⟨_, [], [], [], rfl, by unfold C; exact ⟨rfl, rfl, rfl⟩, by unfold Cs; exact ⟨rfl, rfl⟩, rfl⟩
   · rw [Nat.zero_add]
     exact u4 j u hj
theorem AW.takeR {code : Code} {id k i p k2 : Nat} (nid hid : Nat) {rows rows2 : List (List T)} {row : List T} (hs : look rs id = some (.row k rows)) (hi : rows[i]? = some row) (hp : row[p]? = some (.sl k2 rows2))
 (hf : ∀ c0, St.has ⟨n, puvS id sl, updR id (.row k (rows.set i (row.take p ++ .v c0 :: row.drop (p + 1)))) rs⟩ nid = false)
 (hf2 : ∀ c0, St.has ⟨n, puvS id sl, (nid, .row k2 rows2) :: updR id (.row k (rows.set i (row.take p ++ .v c0 :: row.drop (p + 1)))) rs⟩ hid = false)
 (h : ∀ c0, AW P w0 code Q ⟨n, puvS id sl, (hid, .hdr (some nid) c0) :: (nid, .row k2 rows2) :: updR id (.row k (rows.set i (row.take p ++ .v c0 :: row.drop (p + 1)))) rs⟩) : AW P w0 code Q ⟨n, sl, rs⟩ := fun a w ⟨I, hr⟩ => by
 obtain ⟨c, I', h1, h2, h3, h4⟩ := hr.take nid hs hi hp hf
 have hne : nid ≠ hid := fun e => by
  have := hf2 c
  simp [St.has, e, Nat.beq_refl] at this
 refine h c a w ⟨_, h2.addF (id := hid) (G := []) (u := undef) (b := 0) (r := .hdr (some nid) c) (hf2 c) List.nodup_nil (by simp) ⟨by simp [Ip.set], fun j hj => ?_⟩⟩
 cases hj
 simp only [Ip.set, if_neg hne]
 exact h3
theorem R_shr {t t' : TypeId} {x y : Operand} {n m : Int} (ho : o.op = .binOp .shr t x y t') (hg : Grd ops o σ q) (hd : o.dst.all (fun d => Nat.blt d σ.n) = true) (hx : Get σ q x (.one (.t (.v (.int .i64 n))))) (hy : Get σ q y (.one (.t (.v (.int .i64 m)))))
 (hb : q = true → 0 ≤ n ∧ 0 ≤ m ∧ m ≤ 64) : Op1 P ops o σ (σ.put o.dst (q, .a (.one (.t (.v (.int .i64 ((n.toNat >>> m.toNat : Nat) : Int))))))) :=
 R_bin ho hg hd hx hy guard_int (h := fun hq w => by
  obtain ⟨h1, h2, h3⟩ := hb hq
  have e1 : min m.toNat IntKind.i64.bits = m.toNat := by simp [IntKind.bits]; omega
  have e2 : n.fdiv (2 ^ m.toNat) = ((n.toNat >>> m.toNat : Nat) : Int) := by
   have e3 : n = (n.toNat : Int) := by omega
   have h2p : (0 : Int) ≤ 2 ^ m.toNat := Int.pow_nonneg (by omega)
   rw [Int.fdiv_eq_ediv_of_nonneg n h2p, Nat.shiftRight_eq_div_pow, Int.natCast_ediv, ← e3]
   simp
  simp only [binOp, Op.shift, e1]
  rw [if_neg (by omega), e2]
  rfl)
theorem R_and1 {t t' : TypeId} {x y : Operand} {n : Int} (ho : o.op = .binOp .and t x y t') (hg : Grd ops o σ q) (hd : o.dst.all (fun d => Nat.blt d σ.n) = true) (hx : Get σ q x (.one (.t (.v (.int .i64 n))))) (hy : Get σ q y (.one (.t (.v (.int .i64 1)))))
 (hb : q = true → 0 ≤ n) : Op1 P ops o σ (σ.put o.dst (q, .a (.one (.t (.v (.int .i64 ((n.toNat &&& (1 : Int).toNat : Nat) : Int))))))) :=
 R_bin ho hg hd hx hy guard_int (h := fun hq w => by
  have h1 := hb hq
  have e0 : n.toNat &&& (1 : Int).toNat = n.toNat % 2 := Nat.and_one_is_mod n.toNat
  have e1 : (BitVec.ofInt 64 n &&& BitVec.ofInt 64 1).toNat = n.toNat % 2 := by
   rw [BitVec.toNat_and, BitVec.toNat_ofInt, BitVec.toNat_ofInt]
   show (n % (2 ^ 64 : Int)).toNat &&& 1 = _
   rw [Nat.and_one_is_mod]
   omega
  simp only [binOp, Op.intBits]
  simp only [ne_eq, not_true_eq_false, if_false]
  show (pure (Value.int .i64 (IntKind.i64.wrap ((BitVec.ofInt 64 n &&& BitVec.ofInt 64 1).toNat : Int))) : Sem Value).run P w = _
  rw [e1, e0, wrap_in ⟨by omega, by omega⟩]
  rfl)
theorem R_shlN {t t' : TypeId} {x y : Operand} {m : Int} (ho : o.op = .binOp .shl t x y t') (hg : Grd ops o σ q) (hd : o.dst.all (fun d => Nat.blt d σ.n) = true) (hx : Get σ q x (.one (.t (.v (.int .i64 1))))) (hy : Get σ q y (.one (.t (.v (.int .i64 m)))))
 (hb : q = true → 0 ≤ m ∧ m ≤ 62) : Op1 P ops o σ (σ.put o.dst (q, .a (.one (.t (.v (.int .i64 ((2 ^ m.toNat : Nat) : Int))))))) := by
 have := R_shl1 (P := P) (ops := ops) (n := 1) (m := m) ho hg hd hx hy (fun hq => by
  obtain ⟨h1, h2⟩ := hb hq
  have e : (2 : Nat) ^ m.toNat ≤ 2 ^ 62 := Nat.pow_le_pow_right (by omega) (by omega)
  have e2 : ((2 ^ m.toNat : Nat) : Int) = 2 ^ m.toNat := by simp
  refine ⟨h1, by omega, by omega, ?_⟩
  rw [Int.one_mul, ← e2]
  omega)
 rwa [Int.one_mul, show ((2 : Int) ^ m.toNat) = ((2 ^ m.toNat : Nat) : Int) by simp] at this
end
theorem bit_at (m : Nat) (q : Int) : decide (((((m : Int).toNat >>> q.toNat : Nat) : Int).toNat &&& (1 : Int).toNat : Nat) = (1 : Int)) = m.testBit q.toNat := by
 generalize q.toNat = q
 rw [Nat.testBit]
 simp only [Int.toNat_natCast]
 show decide ((((m >>> q) &&& 1 : Nat) : Int) = 1) = _
 rw [Nat.and_comm]
 have h : 1 &&& (m >>> q) ≤ 1 := Nat.and_le_left
 by_cases e : 1 &&& (m >>> q) = 0
 · rw [e]; simp
 · have e1 : 1 &&& (m >>> q) = 1 := by omega
   rw [e1]; simp
theorem bit_zero (m : Nat) (q : Int) : decide (((((m : Int).toNat >>> q.toNat : Nat) : Int).toNat &&& (1 : Int).toNat : Nat) = (0 : Int)) = !m.testBit q.toNat := by
 have h1 := bit_at m q
 have h : ((((m : Int).toNat >>> q.toNat : Nat) : Int).toNat &&& (1 : Int).toNat) ≤ 1 := Nat.and_le_right
 rw [← h1]
 generalize ((((m : Int).toNat >>> q.toNat : Nat) : Int).toNat &&& (1 : Int).toNat) = n at h ⊢
 have h2 : n = 0 ∨ n = 1 := by omega
 rcases h2 with rfl | rfl <;> rfl
theorem shr_zero (m : Nat) (q : Int) : decide ((((m : Int).toNat >>> q.toNat : Nat) : Int) = 0) = decide (m < 2 ^ q.toNat) := by
 generalize q.toNat = q
 have hp : 0 < 2 ^ q := Nat.two_pow_pos q
 have e : (((m : Int).toNat >>> q : Nat) : Int) = ((m / 2 ^ q : Nat) : Int) := by
  rw [Int.toNat_natCast, Nat.shiftRight_eq_div_pow]
 rw [decide_eq_decide, e]
 constructor
 · intro h
   exact (Nat.div_eq_zero_iff_lt hp).1 (by omega)
 · intro h
   have h : m / 2 ^ q = 0 := (Nat.div_eq_zero_iff_lt hp).2 h
   omega
end Go.Q
