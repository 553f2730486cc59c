/- slices.Sort of the kit's shelf at numbers: as a function that puts a row in another order. -/
import Derived.Test.YtocnceglpkobaaaAbsI
import Derived.Test.YtocnceglpkobaaaB02x
import Derived.Shelf.Sort.Plain
import Derived.Shelf.Slices.In.SortNone
import Derived.Shelf.Abstract
import Derived.Ground.NamesProg
set_option linter.unusedVariables false
set_option linter.unusedSimpArgs false
namespace Go.Q
open Go.RowKit Go.Sort Go.Proofs
section
variable {P : Program}
/-- The function puts the rows of a slice in another order; it has no other argument. -/
def FnS1 (P : Program) (f : FuncId) (k : Nat) (rows rows' : List (List T)) : Prop :=
  Callee P f ∧ ∀ w v F, C true w (.sl k rows) v F → F.Nodup → (∀ b ∈ F, Thaw w b) → Calls P f (List.toArray [v]) w fun e w' => e = .returned (.tuple #[]) ∧ Chg w w' F ∧ ∃ F', C true w' (.sl k rows') v F' ∧ F'.Nodup ∧ ∀ b ∈ F', b ∈ F ∧ Thaw w' b
theorem R_sort1 {ops : Array Oper} {o : Oper} {σ : St} {f : FuncId} {xo : Operand} {tys : Array TypeId} {id k : Nat} {rows rows' : List (List T)} (ho : o.op = .call { callee := .value (.func f), args := [xo].toArray, argTypes := tys }) (hg : o.guard = none) (hd : o.dst.all (fun d => Nat.blt d σ.n) = true)
    (hx : Get σ true xo (.one (.rf id))) (hs : look σ.res id = some (.row k rows)) (h : FnS1 P f k rows rows') : Op1 P ops o σ ((σ.upd id (.row k rows')).put o.dst (true, .tup [])) := by
  rintro w0 a w ⟨I, hr⟩ K Q hK
  simp only [Region.wanted, hg, if_true]
  obtain ⟨h1, a0, N, M, h2⟩ : VE I w (.rf id) (a.eval xo) := hx.va hr rfl
  have hC : C true w (.sl k rows) (I.hd id) (I.F id) := hr.res id _ hs
  have own := hr.own id _ hs
  unfold Oper.wp
  rw [run_enter h.1 ho]
  have hcall := h.2 w _ _ hC own.1 fun b hb => (own.2 b hb).2
  rw [← h1] at hcall
  refine hcall.mono fun e w' hR => ?_
  obtain ⟨rfl, h4, F', h5, h6, h7⟩ := hR
  refine hK _ _ ⟨_, (hr.upd (G := F') (r := .row k rows') hs h4 ⟨h6, fun b hb => ⟨(own.2 b (h7 b hb).1).1, C.lt h5 b hb, (h7 b hb).2, .inl (h7 b hb).1⟩⟩ (by show C true _ _ _ _; simp only [Ip.set, if_true]; rw [← h1]; exact h5)).put (by exact hd) ⟨[], rfl, rfl⟩⟩
theorem heap_mapB {w : World} {blk : Nat} {f : Array Value → Array Value} {c : Array Value} {e : TypeId} {fr : Nat × Nat} (hb : w.heap[blk]? = some (.cells c e fr)) : (mapBlock w blk f).heap[blk]? = some (.cells (f c) e fr) := by
  unfold mapBlock
  show (w.heap.modify blk (onCells f))[blk]? = _
  rw [Array.getElem?_modify, if_pos rfl, hb]
  rfl
theorem heap_mapB_other {w : World} {blk b : Nat} {f : Array Value → Array Value} (h : b ≠ blk) : (mapBlock w blk f).heap[b]? = w.heap[b]? := by
  unfold mapBlock
  show (w.heap.modify blk (onCells f))[b]? = _
  rw [Array.getElem?_modify, if_neg (fun e => h e.symm)]
theorem FnS1.ints {f : FuncId} {c : Int → List T} (hcallee : Callee P f) (hc : ∀ x, c x = [.v (.int .i64 x)]) (S : List Int → List Int) (hS : ∀ l, (S l).length = l.length)
    (hnone : ∀ p cap w, Calls P f #[.slice p 0 cap] w fun e w' => e = .returned (.tuple #[]) ∧ w' = w)
    (hsome : ∀ (blk cap : Nat) (zs : List Int) (w : World), Holds (Value.int .i64) w blk 0 zs.toArray → blk < w.heap.size → zs.length < 4611686018427387904 → Calls P f #[.slice (some ⟨blk, 0, none⟩) zs.length cap] w fun e w' => e = .returned (.tuple #[]) ∧ ∃ n os, w' = grow (putRow (Value.int .i64) (Sort.ahead w n) blk 0 (S zs).toArray) os)
    (l : List Int) (hl : l.length < 4611686018427387904) : FnS1 P f 1 (l.map c) ((S l).map c) := ⟨hcallee, fun w v F hC hnd hth => by
  have hcm : ∀ m : List Int, (m.map c).flatten = (m.map (Value.int .i64)).map T.v := fun m => by
    induction m with
    | nil => rfl
    | cons x m ih => rw [List.map_cons, List.flatten_cons, ih, hc]; rfl
  have hrow : ∀ m : List Int, ∀ r ∈ m.map c, r.length = 1 := fun m r hr => by
    obtain ⟨x, _, rfl⟩ := List.mem_map.1 hr
    rw [hc]; rfl
  have hCc := hC
  simp only [C] at hCc
  obtain ⟨a0, n0, m0, rfl, _⟩ := hCc
  obtain ⟨e1, e2, e3⟩ := hC.hdr
  rw [List.length_map] at e1
  rcases hC.blk with ⟨q1, q2, q3⟩ | ⟨g, G, cur, e', rfl, rfl, q3, q4, q5⟩
  · have hl0 : l = [] := by simpa using q3
    subst hl0
    have hS0 : S [] = [] := List.eq_nil_of_length_eq_zero (by rw [hS]; rfl)
    subst e1
    refine (hnone a0 m0 w).mono fun e w' ⟨h1, h2⟩ => ?_
    subst h2
    rw [hS0]
    exact ⟨h1, Chg.refl _ _, F, hC, hnd, fun b hb => ⟨hb, hth b hb⟩⟩
  · obtain ⟨s1, xs, s2, s3, s4⟩ := q5.flat
    rw [hcm] at s2
    simp only [Nat.zero_add] at s4
    have hval : ∀ m : List Int, (m.map (Value.int .i64)).all Value.oneCell' = true := fun m => by
      rw [List.all_eq_true]
      intro v hv
      obtain ⟨x, _, rfl⟩ := List.mem_map.1 hv
      rfl
    have hG : G = [] ∧ xs = l.map (Value.int .i64) := by
      have key : ∀ (vs : List Value) {cs : List Value} {G : List Nat}, Cs true w (vs.map T.v) cs G → G = [] ∧ cs = vs := by
        intro vs
        induction vs with
        | nil => intro cs G h; simp only [List.map_nil, Cs] at h; exact ⟨h.2, h.1⟩
        | cons v vs ih =>
          intro cs G h
          simp only [List.map_cons, Cs] at h
          obtain ⟨c1, cr, G1, G2, rfl, h2, h3, rfl⟩ := h
          simp only [C] at h2
          obtain ⟨rfl, rfl, _⟩ := h2
          obtain ⟨rfl, rfl⟩ := ih h3
          exact ⟨rfl, rfl⟩
      exact key _ s2
    obtain ⟨rfl, rfl⟩ := hG
    have hglt : g < w.heap.size := (Array.getElem?_eq_some_iff.1 q3).1
    have hH : Holds (Value.int .i64) w g 0 l.toArray := fun j hj => by
      rw [List.size_toArray] at hj
      rw [Nat.zero_add]
      refine ⟨?_, by simp [World.frozen?, q3]⟩
      rw [s4 j _ (show (l.map (Value.int .i64))[j]? = some (.int .i64 l[j]) by rw [List.getElem?_map, List.getElem?_eq_getElem hj]; rfl)]
      simp [hj]
    have hcall := hsome g m0 l w hH hglt hl
    rw [e1] at hcall
    refine hcall.mono fun e w' hR => ?_
    obtain ⟨rfl, n, os, rfl⟩ := hR
    have hsl := hS l
    generalize hd' : (S l).toArray = d'
    have hd's : d'.size = l.length := by rw [← hd']; simpa using hsl
    have hw1 : (grow (putRow (Value.int .i64) (Sort.ahead w n) g 0 d') os).heap[g]? = some (.cells (putCells (Value.int .i64) 0 d' cur) e' (0, 0)) := by
      unfold grow putRow
      show ((mapBlock (Go.Sort.ahead w n) g _).heap ++ os)[g]? = _
      have hm := heap_mapB (w := Go.Sort.ahead w n) (f := putCells (Value.int .i64) 0 d') q3
      rw [Array.getElem?_append_left (Array.getElem?_eq_some_iff.1 hm).1]
      exact hm
    have hw2 : ∀ b, b < w.heap.size → b ≠ g → (grow (putRow (Value.int .i64) (Sort.ahead w n) g 0 d') os).heap[b]? = w.heap[b]? := fun b hb hne => by
      unfold grow putRow
      show ((mapBlock (Go.Sort.ahead w n) g _).heap ++ os)[b]? = _
      have hm := heap_mapB_other (w := Go.Sort.ahead w n) (f := putCells (Value.int .i64) 0 d') hne
      have hb' : b < (mapBlock (Go.Sort.ahead w n) g (putCells (Value.int .i64) 0 d')).heap.size := heap_lt hm hb
      rw [Array.getElem?_append_left hb']
      exact hm
    have hsz : (putCells (Value.int .i64) 0 d' cur).size = m0 * 1 := by unfold putCells; simp [q4]
    have hch : Chg w (grow (putRow (Value.int .i64) (Sort.ahead w n) g 0 d') os) [g] := ⟨rfl, rfl, rfl, by rw [Go.Sort.size_grow, Go.Sort.size_putRow]; exact Nat.le_add_right _ _, fun b hb hn => hw2 b hb (by simpa using hn)⟩
    refine ⟨rfl, hch, [g], ?_, by simp, fun b hb => ?_⟩
    · unfold C
      refine ⟨_, _, _, rfl, by rw [List.length_map, hsl, e1], e2, e3, .inr ⟨g, 0, [], rfl, rfl, (Array.getElem?_eq_some_iff.1 hw1).1, fun _ => ⟨rfl, _, e', hw1, hsz⟩, Rws.of (xs := (S l).map (Value.int .i64)) (hrow _) ?_ fun j u hj => ?_⟩⟩
      · rw [hcm]; exact Cs_vals (hval _)
      · have hjl : j < l.length := by have := (List.getElem?_eq_some_iff.1 hj).1; rw [List.length_map, hsl] at this; exact this
        have hjc : j < cur.size := by rw [q4]; omega
        rw [List.getElem?_map, List.getElem?_eq_getElem (by rw [hsl]; exact hjl)] at hj
        cases hj
        simp only [World.cell?, hw1, Nat.zero_add]
        unfold putCells
        rw [Array.getElem?_mapIdx, Array.getElem?_eq_getElem hjc]
        simp [hd's, hjl, ← hd', hsl]
    · simp only [List.mem_singleton] at hb
      subst hb
      exact ⟨by simp, _, _, hw1⟩⟩
end
end Go.Q
