import Derived.Test.YtamnfkfjfelbbaaB55xw
import Derived.WideLaws
import Derived.Test.YtamnfkfjfelbbaaAbsHxw
import Derived.Test.YtamnfkfjfelbbaaB49xw
set_option linter.unusedVariables false
set_option linter.unusedSimpArgs false
namespace Go.Q
open Go.RowKit
theorem Ms_of {I : Ip} {w : World} {b : Nat} : ∀ (xs : List T) (vs : List Value) (off : Nat), VEs I w (xs.map .t) vs → (∀ j v, vs[j]? = some v → w.cell? ⟨b, off + j, none⟩ = some v) → ∃ G, Ms false w b off xs G ∧ ∀ q ∈ G, I.Z q
 | [], _, _, _, _ => ⟨[], by simp only [Ms], by simp⟩
 | x :: xs, vs, off, ⟨c, cr, e, ⟨G1, k1, k2⟩, h3⟩, hc => by
  subst e
  obtain ⟨G2, g1, g2⟩ := Ms_of xs cr (off + 1) h3 fun j v hj => by
   have := hc (j + 1) v (by simpa using hj)
   rwa [show off + (j + 1) = off + 1 + j by omega] at this
  refine ⟨G1 ++ G2, ?_, fun q hq => ?_⟩
  · simp only [Ms]
    exact ⟨c, G1, G2, hc 0 c rfl, k1, g1, rfl⟩
  · rcases List.mem_append.1 hq with hq | hq
    · exact k2 q hq
    · exact g2 q hq
theorem Le.frz (id d : Nat) {n : Nat} {sl : List (Nat × (Bool × S))} {rs : List (Nat × R)} {xs : List T} {cs : List E} (h1 : look rs id = some (.box cs)) (hcs : cs = xs.map .t) (h2 : look sl d = some (true, .a (.one (.pp id 0)))) :
 Le ⟨n, sl, rs⟩ ⟨n, (d, (true, .a (.one (.t (.ad xs))))) :: ((⟨n, sl, rs⟩ : St).chg id (.hdr none undef)).slots, ((⟨n, sl, rs⟩ : St).chg id (.hdr none undef)).res⟩ := by
 rintro w0 a w ⟨I, hr⟩
 subst hcs
 have hbox := hr.res id _ h1
 obtain ⟨hF, vs, e, hb, hvs⟩ := hbox
 have hpp : VS I w (true, .a (.one (.pp id 0))) (a.tmps.getD d undef) := hr.slots d _ h2
 have hpp : a.tmps.getD d undef = .pointer (some ⟨I.B id, 0, none⟩) := hpp
 have hlt : I.B id < w.heap.size := (Array.getElem?_eq_some_iff.1 hb).1
 have s1 := hr.chg h1 (Chg.refl w _) (G := []) (u := undef) (r := .hdr none undef) ⟨List.nodup_nil, by simp⟩ ⟨by simp [Ip.set], fun i h => by cases h⟩
 have hno : ∀ i, I.B id ∉ (I.set id [] undef (I.B id)).F i := fun i hi => by
  by_cases e : i = id
  · subst e; simp [Ip.set] at hi
  · simp only [Ip.set, if_neg e] at hi
    exact hr.apart i id e _ hi (by rw [hF]; simp)
 have s2 := s1.also (G := [I.B id]) fun b hb' => by
  rw [List.mem_singleton] at hb'; subst hb'
  exact ⟨hlt, hno⟩
 obtain ⟨G, g1, g2⟩ := Ms_of (b := I.B id) xs vs 0 hvs fun j v hj => by
  rw [Nat.zero_add]
  simp [World.cell?, hb, hj]
 refine ⟨_, ⟨s2.ext, s2.defers, s2.size, fun i x hx => ?_, s2.res, s2.old, s2.lt, s2.own, s2.apart⟩⟩
 rw [look_cons] at hx
 by_cases ei : d = i
 · rw [if_pos ei] at hx
   cases hx
   subst ei
   refine ⟨I.B id :: G, ?_, fun b hb' => ?_⟩
   · rw [hpp]
     simp only [C]
     exact ⟨I.B id, 0, G, rfl, rfl, hlt, g1⟩
   · rcases List.mem_cons.1 hb' with rfl | hb'
     · exact .inr (by simp)
     · exact .inl (g2 b hb')
 · rw [if_neg ei] at hx
   exact s2.slots i x hx
end Go.Q
namespace Go.Q
open Go.RowKit
section
variable {P : Program} {ops : Array Oper} {o : Oper} {σ : St} {q : Bool}
end
end Go.Q
namespace Go.Q
open Go.RowKit
section
variable {P : Program} {ops : Array Oper} {o : Oper} {σ : St}
theorem R_load_hd {d nid hid k : Nat} {c0 : Value} {rows : List (List T)} (h : Op1 P ops o σ (σ.put o.dst (true, .a (.one (.t (.v c0)))))) (hdst : o.dst = some d) (hh : look σ.res hid = some (.hdr (some nid) c0)) (hs : look σ.res nid = some (.row k rows)) :
 Op1 P ops o σ (σ.put o.dst (true, .a (.one (.rf nid)))) := fun w0 a w hr K Q hK => h w0 a w hr K Q fun a' w' hr' => hK a' w' (by
 rw [hdst] at hr' ⊢
 obtain ⟨I, g⟩ := hr'
 refine ⟨I, g.ext, g.defers, g.size, fun i x hi => ?_, g.res, g.old, g.lt, g.own, g.apart⟩
 have hi2 : look ((d, (true, S.a (.one (.rf nid)))) :: σ.slots) i = some x := hi
 clear hi
 rw [look_cons] at hi2
 by_cases e : d = i
 · subst e
   rw [if_pos rfl] at hi2
   cases hi2
   have h1 : VS I w' (true, .a (.one (.t (.v c0)))) (a'.tmps.getD d undef) := g.slots d _ (by show look ((d, _) :: σ.slots) d = _; rw [look_cons, if_pos rfl])
   obtain ⟨G, k1, _⟩ : VE I w' (.t (.v c0)) (a'.tmps.getD d undef) := h1
   simp only [C] at k1
   have k2 : I.hd nid = c0 := (g.res _ _ hh).2 nid rfl
   have hC : C true w' (.sl k rows) (I.hd nid) (I.F nid) := g.res nid _ hs
   simp only [C] at hC
   obtain ⟨a1, l1, c1, e1, _⟩ := hC
   exact show VE I w' (.rf nid) _ from ⟨by rw [k1.1, k2], a1, l1, c1, by rw [k1.1, ← k2, e1]⟩
 · rw [if_neg e] at hi2
   exact g.slots i x (by show look ((d, _) :: σ.slots) i = _; rw [look_cons, if_neg e]; exact hi2))
theorem R_load_hdr {d nid hid k2 : Nat} {c0 : Value} {rows2 : List (List T)} {id k i p : Nat} {t : TypeId} {x : Operand} {rows : List (List T)} {row : List T} {ag : Bool} {n : Nat} (ho : o.op = .load t x) (hg : Grd ops o σ true) (hd : o.dst.all (fun d => Nat.blt d σ.n) = true) (hx : Get σ true x (.one (.pr id k i p))) (hs : look σ.res id = some (.row k rows)) (hi : rows[i]? = some row) (ht : tyB P t ag n = true)
 (hn : Nat.ble (p + n) row.length = true) (h1 : (ag || Nat.beq n 1) = true) (hc : mkA ag (((row.drop p).take n).map (toE id)) = .one (.t (.v c0))) (hdst : o.dst = some d) (hh : look σ.res hid = some (.hdr (some nid) c0)) (hs2 : look σ.res nid = some (.row k2 rows2)) :
 Op1 P ops o σ (σ.put o.dst (true, .a (.one (.rf nid)))) :=
 R_load_hd (c0 := c0) (by have := R_load_pr ho hg hd hx hs hi ht hn h1; rw [hc] at this; exact this) hdst hh hs2
end
end Go.Q
namespace Go.Q
open Go.RowKit
section
variable {P : Program} {ops : Array Oper} {o : Oper} {σ : St} {q : Bool}
end
end Go.Q
namespace Go.Q
open Go.RowKit
section
variable {P : Program} {ops : Array Oper} {o : Oper} {σ : St} {q : Bool}
end
end Go.Q
namespace Go.Q
open Go.RowKit
section
variable {P : Program} {ops : Array Oper} {o : Oper} {σ : St} {q : Bool}
end
end Go.Q
namespace Go.Q
open Go.RowKit
section
variable {P : Program} {ops : Array Oper} {o : Oper} {σ : St}
inductive GetL (σ : St) : List Operand → List E → Prop where
 | nil : GetL σ [] []
 | cons {x : Operand} {e : E} {l : List Operand} {es : List E} (hx : Get σ true x (.one e)) (h : GetL σ l es) : GetL σ (x :: l) (e :: es)
end
end Go.Q
set_option maxHeartbeats 1000000
set_option maxRecDepth 100000
namespace Go.Q
open Go.D
def usefulOk (g : TGraph) (a : TAutomaton) (x y : Int) : Bool := goodB g a x 0 && goodB g a y 0
theorem useful_both {g : TGraph} {a : TAutomaton} {x y : Int} : bothB g a [x, y] = usefulOk g a x y := by
 unfold usefulOk
 rw [← both_good, ← both_good]
 unfold bothB
 simp only [List.all_cons, List.all_nil, Bool.and_true]
 cases inB x 0 ((g.Values.length : Int) - 1) <;> cases inB y 0 ((g.Values.length : Int) - 1) <;> cases validG g <;> cases validA a <;> rfl
theorem goals_rng {g : TGraph} {a : TAutomaton} {y v : Int} (ha : validA a = true) (hy : 0 ≤ y ∧ y < g.Values.length) : ∀ q ∈ goalsL a y v, 0 ≤ q ∧ q < (NP g a : Int) := by
 intro q hq
 unfold goalsL at hq
 obtain ⟨s, hs, rfl⟩ := List.mem_map.1 hq
 have hsl := List.mem_range.1 (List.mem_filter.1 hs).1
 have hA := validA_len ha
 have h0 : 0 ≤ y * (a.Accept.length : Int) := Int.mul_nonneg hy.1 (by omega)
 have h1 : y * (a.Accept.length : Int) ≤ ((g.Values.length : Int) - 1) * (a.Accept.length : Int) := Int.mul_le_mul_of_nonneg_right (by omega) (by omega)
 have h2 : ((g.Values.length : Int) - 1) * (a.Accept.length : Int) = (a.Accept.length : Int) * g.Values.length - a.Accept.length := by rw [Int.sub_mul, Int.one_mul, Int.mul_comm]
 have h3 : ((NP g a : Nat) : Int) = (a.Accept.length : Int) * g.Values.length := by unfold NP; simp
 exact ⟨by show 0 ≤ y * (a.Accept.length : Int) + (s : Int); omega, by show y * (a.Accept.length : Int) + (s : Int) < _; omega⟩
theorem goals_iff {g : TGraph} {a : TAutomaton} {y v : Int} (ha : validA a = true) (hy : 0 ≤ y) (hv : g.Values[y.toNat]? = some v) {i : Nat} (hi : i < NP g a) : (i : Int) ∈ goalsL a y v ↔ goalOf g a y i = true := by
 have hA := validA_len ha
 have hd := nd_ok hA.1 (show i < a.Accept.length * g.Values.length from hi)
 have hdm := Int.mul_ediv_add_emod (i : Int) (a.Accept.length : Int)
 unfold goalsL goalOf
 simp only [List.mem_map, List.mem_filter, List.mem_range, Bool.and_eq_true, decide_eq_true_eq]
 constructor
 · rintro ⟨s, ⟨hs, hacc⟩, e⟩
   have h1 : (i : Int) / (a.Accept.length : Int) = y := by
    rw [← e, Int.add_comm, Int.add_mul_ediv_right _ _ (by omega), Int.ediv_eq_zero_of_lt (by omega) (by omega), Int.zero_add]
   have h2 : (i : Int) % (a.Accept.length : Int) = s := by
    rw [← e, Int.add_comm, Int.add_mul_emod_self_right, Int.emod_eq_of_lt (by omega) (by omega)]
   refine ⟨h1, ?_⟩
   rw [h1, h2, hv]; exact hacc
 · rintro ⟨h1, h2⟩
   rw [h1, hv] at h2
   refine ⟨((i : Int) % (a.Accept.length : Int)).toNat, ⟨by omega, ?_⟩, ?_⟩
   · rw [Int.toNat_of_nonneg hd.2.1]; exact h2
   · rw [Int.toNat_of_nonneg hd.2.1, ← h1, Int.mul_comm]; exact hdm
theorem CanR.congr {nx nx' : Nat → List Int} {G : Nat → Bool} {N : Nat} (hn : ∀ p, p < N → ∀ k ∈ nx p, 0 ≤ k ∧ k < (N : Int)) (he : ∀ p, p < N → nx p = nx' p) {i : Nat} (h : CanR nx G i) : i < N → CanR nx' G i := by
 induction h with
 | goal h => exact fun _ => .goal h
 | @step i z hz _ ih =>
  intro hi
  have hb := hn i hi z hz
  exact .step (by rw [← he i hi]; exact hz) (ih (by omega))
end Go.Q
namespace Go.Proofs.Ytamnfkfjfelbbaa
open Go.RowKit Go.Q Go.D
theorem implturned (next : List (List Int)) (hN : next.length ≤ 65536) (hn : ∀ p, p < next.length → ∀ k ∈ nxL next p, 0 ≤ k ∧ k < next.length) (hz : ∀ p, p < next.length → (nxL next p).length ≤ 65536) : FnT Try.prog 64 [.one (.sl 1 (next.map cIntS))] (.a (.one (.sl 1 ((turnedL next).map cIntS)))) := by
 refine FnT.walk Try.func64 U (by kernel_rfl) Try.ntmps64 U fun hlen w0 => ?_
 try simp [cPair, cToken, cExpr, cEdge, cGraph, cStep, cWalk, cChange, cBatch, cHistory, cPositions, cAutomaton, cProductStep, cPathAtom, cConjunction, cView, cDelta, cRegistered, cRegistry] at hlen
 skip
 refine AW.sr ?_
 refine AWl.ac ?_
 refine AWl.nilS (i := 2) 20001 1 U U ?_
 refine AWl.nil (AW.sr ?_)
 refine AWl.mv ?_
 refine AWl.p (by exact R_lenm U (.no U) U (.tm U) (by exact .t) Try.underlying27) U ?_
 refine AWl.add (R_makeSlice 10 U U U (.tm U) Try.underlying27 in22 U U U U (by omega)) U ?_
 refine AWl.le (Le.nilRow (id := 10) 1 U) ?_
 refine AWl.av ?_
 refine AWl.nil (AW.seq ?_)
 refine AW.sr ?_
 refine AWl.mv ?_
 refine AWl.p (by exact R_lenm U (.no U) U (.tm U) (by exact .t) Try.underlying27) U ?_
 refine AWl.p (R_move U (.no U) U (.const U)) U ?_
 refine AWl.nil (AW.block ?_)
 refine AW.loop1 (fun (i : Nat) => (i ≤ next.length) ∧ True) (fun (i : Nat) => ⟨_, [(13, (true, .a (.one (.t (.v (.int .i64 (i : Nat))))))), (3, (true, .a (.one (.rf 10)))), (2, _), (11, _), (12, _)], [(10, .row 1 ((List.range next.length).map fun (k : Nat) => [T.sl 1 ((turnAt (nxL next) i k).map cInt)]))]⟩) (fun (i : Nat) => next.length - i) (0) ⟨Nat.zero_le _, Y⟩ (Le.sub0 U ⟨U, U, U, U, U, Y⟩ ⟨congrArg (fun r => some (R.row 1 r)) (by apply List.ext_getElem <;> simp [turnAt, turnOne]), Y⟩) ?_
 rintro i ⟨hk, he⟩
 refine AW.sr ?_
 refine AWl.p (R_lt U (.no U) U (.tm U) (.tm U)) U ?_
 refine AWl.nil (AW.seq ?_)
 refine AW.cond (.tm U) (fun h14 => ?_) (fun h14 => ?_)
 · skip
   try simp at h14
   obtain ⟨l, hl⟩ : ∃ ξ, next[i]? = some ξ := ⟨_, List.getElem?_eq_getElem (by omega)⟩
   have hnl : nxL next i = l := nxL_at hl
   have hiN : i < next.length := by omega
   have hll : l.length ≤ 65536 := by rw [← hnl]; exact hz i hiN
   refine AW.skip ?_
   refine AW.seq ?_
   refine AW.block ?_
   refine AW.sr ?_
   refine AWl.mv ?_
   refine AWl.p (by exact R_indexAddr U (.no U) U (.tm U) (.tm U) Try.underlying27 ty22 (fun _ => ⟨by omega, (by exact map_get hl)⟩)) U ?_
   refine AWl.p (by exact R_load U (.no U) U (.tm U) ty22 U U) U ?_
   refine AWl.av ?_
   refine AWl.av ?_
   refine AWl.nil (AW.sr ?_)
   refine AWl.mv ?_
   refine AWl.p (by exact R_lenm U (.no U) U (.tm U) (by exact .t) Try.underlying22) U ?_
   refine AWl.p (R_move U (.no U) U (.const U)) U ?_
   refine AWl.nil (AW.block ?_)
   refine AW.loop1 (fun (j : Nat) => (j ≤ l.length) ∧ True) (fun (j : Nat) => ⟨_, [(20, (true, .a (.one (.t (.v (.int .i64 (j : Nat))))))), (3, (true, .a (.one (.rf 10)))), (2, _), (4, _), (11, _), (12, _), (13, _), (18, _), (19, _)], [(10, .row 1 ((List.range next.length).map fun (k : Nat) => [T.sl 1 ((turnAt (nxL next) i k ++ turnOne i (l.take j) k).map cInt)]))]⟩) (fun (j : Nat) => l.length - j) (0) ⟨Nat.zero_le _, Y⟩ (Le.sub0 U ⟨U, U, U, U, U, U, U, U, U, Y⟩ ⟨congrArg (fun r => some (R.row 1 r)) (by apply List.ext_getElem <;> simp [turnAt, turnOne]), Y⟩) ?_
   rintro j ⟨hk1, he1⟩
   refine AW.sr ?_
   refine AWl.p (R_lt U (.no U) U (.tm U) (.tm U)) U ?_
   refine AWl.nil (AW.seq ?_)
   refine AW.cond (.tm U) (fun h21 => ?_) (fun h21 => ?_)
   · skip
     try simp at h21
     obtain ⟨y, hy⟩ : ∃ ξ, l[j]? = some ξ := ⟨_, List.getElem?_eq_getElem (by omega)⟩
     have hyb := hn i hiN y (by rw [hnl]; exact List.mem_of_getElem? hy)
     have hl1 := turnAt_len (nx := nxL next) (b := 65536) (N := next.length) hz y.toNat i (by omega)
     have hl2 := turnOne_len i (l.take j) y.toNat
     have hl3 : (l.take j).length ≤ 65536 := by (have := hz i hiN; rw [hnl] at this; rw [List.length_take]; omega)
     have hl4 : (turnAt (nxL next) i y.toNat).length + (turnOne i (l.take j) y.toNat).length ≤ 4295032832 := by omega
     refine AW.skip ?_
     refine AW.seq ?_
     refine AW.block ?_
     refine AW.sr ?_
     refine AWl.p (by exact R_indexAddr U (.no U) U (.tm U) (.tm U) Try.underlying22 ty3 (fun _ => ⟨by omega, (by exact map_get hy)⟩)) U ?_
     refine AWl.p (by exact R_load U (.no U) U (.tm U) ty3 U U) U ?_
     refine AWl.av ?_
     refine AWl.nil ?_
     refine AW.takeR (id := 10) (i := y.toNat) (p := 0) 291 292 U (range_get _ (by omega)) U (fun _ => rfl) (fun _ => rfl) fun c29 => ?_
     refine AW.region ?_
     refine AWl.mv ?_
     refine AWl.mv ?_
     refine AWl.mv ?_
     refine AWl.mv ?_
     refine AWl.p ((by exact R_indexAddr_rf U (.no U) U (.tm U) U (.tm U) Try.underlying27 ty22 (fun _ => ⟨by omega, set_at _ (range_get _ (by omega))⟩))) U ?_
     refine AWl.p ((by exact R_load_pr U (.no U) U (.tm U) U (set_at _ (range_get _ (by omega))) ty22 U U)) U ?_
     refine AWl.mv ?_
     refine AWl.p (R_listz (xs := [.tmp 30]) (rows := [cInt (i : Int)]) U U U (.cons (.tm U) U U .nil) Try.underlying22 in3 U U (U)) U ?_
     refine AWl.chgput (R_append_hd (id := 291) (hid := 292) U U U (.tm U) U U (.tm U) (by exact .t) (by rfl) Try.underlying22 in3 U (by (simp [chunk]; omega)) (by (unfold maxLen; simp [chunk]; omega))) U ?_
     refine AWl.le (σ' := ⟨_, [(2, _), (3, _), (4, _), (7, _), (11, _), (12, _), (13, _), (18, _), (19, _), (20, _), (21, _), (24, _), (25, _), (32, _)], [(10, _), (291, _), (292, _)]⟩) (Le.sub0 U ⟨U, U, U, U, U, U, U, U, U, U, U, U, U, U, Y⟩ ⟨U, U, U, Y⟩) ?_
     refine AWl.p ((by exact R_indexAddr_rf U (.no U) U (.tm U) U (.tm U) Try.underlying27 ty22 (fun _ => ⟨by omega, set_at _ (range_get _ (by omega))⟩))) U ?_
     refine AWl.absupd (R_store_pr U U U (.tm U) U (.tm U) U (set_at _ (range_get _ (by omega))) ty22 U U U U) ?_
     refine AWl.nil (AW.region ?_)
     refine AWl.p (R_add U (.no U) U (.tm U) (.const U) (fun _ => by omega)) U ?_
     refine AWl.mv ?_
     refine AWl.nil ?_
     repeat (with_reducible refine BlockQ.nor ?_)
     refine Round1.next (j + 1) ⟨by omega, Y⟩ (by omega) (Le.sub0 rfl ⟨rfl, rfl, rfl, rfl, rfl, rfl, rfl, rfl, rfl, Y⟩ ⟨(by refine congrArg (fun r => some (R.row 1 r)) ?_; first | (simp only [List.set_set]; refine (range_app 1 cInt (fun k => turnAt (nxL next) i k ++ turnOne i (l.take j) k) (i : Int)).trans ?_; congr 1; funext k; rw [turnOne_succ hy, List.append_assoc]; done) | (congr 1; funext k; rw [turnAt_succ, hnl, List.take_of_length_le (by omega)]; done) | (congr 1; funext k; simp [turnOne]; done)), Y⟩)
   · skip
     try simp at h21
     refine AW.exit ?_
     refine AW.region ?_
     refine AWl.p (R_add U (.no U) U (.tm U) (.const U) (fun _ => by omega)) U ?_
     refine AWl.mv ?_
     refine AWl.nil ?_
     repeat (with_reducible refine BlockQ.nor ?_)
     refine Round1.next (i + 1) ⟨by omega, Y⟩ (by omega) (Le.sub0 rfl ⟨rfl, rfl, rfl, rfl, rfl, Y⟩ ⟨(by refine congrArg (fun r => some (R.row 1 r)) ?_; first | (simp only [List.set_set]; refine (range_app 1 cInt (fun k => turnAt (nxL next) i k ++ turnOne i (l.take j) k) (i : Int)).trans ?_; congr 1; funext k; rw [turnOne_succ hy, List.append_assoc]; done) | (congr 1; funext k; rw [turnAt_succ, hnl, List.take_of_length_le (by omega)]; done) | (congr 1; funext k; simp [turnOne]; done)), Y⟩)
 · skip
   try simp at h14
   refine AW.exit ?_
   refine AW.sr ?_
   refine AWl.mv ?_
   refine AWl.av ?_
   refine AWl.nil (AW.ret ?_)
   refine Res.one U (.tmp U .nil) U ?_
   rw [show i = next.length by omega]; unfold turnedL; rw [List.map_map]; rfl
end Go.Proofs.Ytamnfkfjfelbbaa
