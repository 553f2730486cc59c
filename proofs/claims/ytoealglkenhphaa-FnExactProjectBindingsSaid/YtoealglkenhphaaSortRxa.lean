/- Rows of rows of ints, sorted by their contents: slices.SortFunc of the kit's shelf, at headers. -/
import Derived.Test.YtoealglkenhphaaAbsZxa
import Derived.Test.YtoealglkenhphaaSortxa
import Derived.Test.YtoealglkenhphaaB05xa
import Derived.Test.YtoealglkenhphaaB15xa
set_option linter.unusedVariables false
set_option linter.unusedSimpArgs false
namespace Go.Q
open Go.RowKit Go.Sort Go.Proofs Go.D
theorem cmpL_self : ∀ l : List Int, cmpL l l = 0
  | [] => rfl
  | x :: l => by rw [cmpL, if_neg (by omega), if_neg (by omega)]; exact cmpL_self l
theorem cmpL_tra : ∀ a b c : List Int, cmpL a b < 0 → cmpL b c < 0 → cmpL a c < 0
  | [], [], _, h, _ => by simp [cmpL] at h
  | _ :: _, [], _, h, _ => by simp [cmpL] at h
  | _, _ :: _, [], _, h => by simp [cmpL] at h
  | [], _ :: _, _ :: _, _, _ => by simp [cmpL]
  | x :: a, y :: b, z :: c, h1, h2 => by
    rw [cmpL] at *
    have ih := cmpL_tra a b c
    repeat' split at *
    all_goals first | omega | exact ih h1 h2
theorem cmpL_tri : ∀ a b : List Int, cmpL a b < 0 ∨ a = b ∨ cmpL b a < 0
  | [], [] => .inr (.inl rfl)
  | [], _ :: _ => .inl (by simp [cmpL])
  | _ :: _, [] => .inr (.inr (by simp [cmpL]))
  | x :: a, y :: b => by
    rw [cmpL, cmpL]
    by_cases h1 : x < y
    · simp [h1]
    · by_cases h2 : y < x
      · simp [h1, h2]
      · have : x = y := by omega
        subst this
        simp only [if_neg h1]
        rcases cmpL_tri a b with h | h | h
        · exact .inl h
        · exact .inr (.inl (by rw [h]))
        · exact .inr (.inr h)
/-- The order of rows. -/
def rless (a b : List Int) : Bool := decide (cmpL a b < 0)
theorem rless_so : SO rless where
  irr x := by simp [rless, cmpL_self]
  tra x y z h1 h2 := by simp only [rless, decide_eq_true_eq] at *; exact cmpL_tra x y z h1 h2
  tri x y := by simp only [rless, decide_eq_true_eq]; exact cmpL_tri x y
/-- A row of rows of ints. -/
def cR (r : List Int) : List T := [.sl 1 (r.map cInt)]
section
variable {P : Program} {ρ : Go.Shelf.Ren}
theorem FnS.rows (L : SlLaysF.n6 P ρ) {g : FuncId} (hcal : Callee P (ρ.f 6)) (heg : ∀ args w, (callFunc g args).run P w = .ok (.enter g args) w)
    (hcmp : ∀ (x y : List Int) (vx vy : Value) (Gx Gy : List Nat) (w : World), C false w (.sl 1 (x.map cInt)) vx Gx → C false w (.sl 1 (y.map cInt)) vy Gy → Calls P g #[vx, vy] w fun e w' => e = .returned (.int .i64 (cmpL x y)) ∧ ∃ q os', w' = grow (w.drewN q) os')
    (rows : List (List Int)) (hl : rows.length < 4611686018427387904) : FnS P (ρ.f 6) 1 (rows.map cR) (.func (.func g) #[] #[]) ((sortG rless rows).map cR) := ⟨hcal, fun w v F _ hC hnd hth => by
  obtain ⟨n, hn⟩ : ∃ n, rows.length = n := ⟨_, rfl⟩
  have hCc := hC
  simp only [C] at hCc
  obtain ⟨a0, n0, m0, rfl, _⟩ := hCc
  obtain ⟨e1, e2, e3⟩ := hC.hdr
  rw [List.length_map] at e1
  cases n with
  | zero =>
    have h0 : rows = [] := List.eq_nil_of_length_eq_zero hn
    subst h0
    subst e1
    have hs0 : sortG rless ([] : List (List Int)) = [] := List.eq_nil_of_length_eq_zero (sortG_len _)
    rw [hs0]
    refine (AnyF.slices_SortFunc_none { L with } a0 m0 _ w).mono fun e w' ⟨h1, h2⟩ => ?_
    subst h2
    exact ⟨h1, Chg.refl _ _, F, hC, hnd, fun b hb => ⟨hb, hth b hb⟩⟩
  | succ n' =>
    have hC' : C true w (.sl 1 ((rows.map fun r => T.sl 1 (r.map cInt)).map fun t => [t])) (.slice a0 n0 m0) F := by rw [List.map_map]; exact hC
    have hlen : (rows.map fun r => T.sl 1 (r.map cInt)).length = n' + 1 := by rw [List.length_map, hn]
    obtain ⟨hd, G, F0, c1, c2, c3, c4, c5, c6, c7⟩ := C_split hC' hnd
    rw [hlen] at c2 c5 c6 c7
    let R : Fin (n' + 1) → List Int := fun i => rows.getD i.val []
    have hRi : ∀ i : Fin (n' + 1), rows[i.val]? = some (R i) := fun i => by
      show _ = some (rows.getD i.val [])
      rw [List.getD_eq_getElem?_getD, List.getElem?_eq_getElem (by rw [hn]; exact i.isLt)]; rfl
    have hti : ∀ i : Fin (n' + 1), C true w (.sl 1 ((R i).map cInt)) (hd i.val) (G i.val) := fun i => c1 i.val _ (by rw [List.getElem?_map, hRi i]; rfl)
    have hlt : ∀ b ∈ F, b < w.heap.size := hC'.lt
    rcases c2.blk with ⟨_, _, q3⟩ | ⟨g0, G0, cur, e', rfl, rfl, q3, q4, q5⟩
    · simp at q3
    · have q5' : Rws true w g0 1 0 (((List.range (n' + 1)).map fun i => T.v (hd i)).map fun t => [t]) G0 := by rw [List.map_map]; exact q5
      obtain ⟨hs, Gs, s1, s2, s3, s4⟩ := Rws_split q5'
      have hcell : ∀ i, i < n' + 1 → w.cell? ⟨g0, i, none⟩ = some (hd i) ∧ (hd i).oneCell' = true := fun i hi => by
        obtain ⟨h, A, k1, k2, k3, k4⟩ := s4 i (.v (hd i)) (by simp [hi])
        simp only [C] at k4
        rw [Nat.zero_add, k4.1] at k3
        exact ⟨k3, k4.2.2⟩
      have hg0 : g0 < w.heap.size := (Array.getElem?_eq_some_iff.1 q3).1
      let enc : Fin (n' + 1) → Value := fun i => hd i.val
      let cf : Fin (n' + 1) → Fin (n' + 1) → Int := fun i j => cmpL (R i) (R j)
      let d : Array (Fin (n' + 1)) := (List.finRange (n' + 1)).toArray
      have hds : d.size = n' + 1 := by simp [d]
      have hdi : ∀ j, (hj : j < n' + 1) → d[j]! = ⟨j, hj⟩ := fun j hj => by
        rw [getElem!_pos d j (by rw [hds]; exact hj)]; simp [d]
      have hO : SWO (ltOf cf) := {
        irrefl := fun x => by simp [ltOf, cf, cmpL_self]
        trans := fun x y z h1 h2 => by simp only [ltOf, cf, decide_eq_true_eq] at *; exact cmpL_tra _ _ _ h1 h2
        ntrans := fun x y z h1 h2 => by
          have := leG_trans rless_so (R z) (R y) (R x) (by unfold leG rless; simpa [ltOf, cf] using h2) (by unfold leG rless; simpa [ltOf, cf] using h1)
          unfold leG rless at this
          simpa [ltOf, cf] using this }
      have hH : Holds enc w g0 0 d := fun j hj => by
        rw [hds] at hj
        rw [Nat.zero_add, hdi j hj]
        exact ⟨(hcell j hj).1, by simp [World.frozen?, q3]⟩
      have hother : ∀ (m : Nat) (dk : Array (Fin (n' + 1))) (os : Array Obj) (b : Nat), b < w.heap.size → b ≠ g0 → (sortWorld enc w g0 0 m dk os).heap[b]? = w.heap[b]? := fun m dk os b hb hne => by
        unfold sortWorld grow putRow
        show ((mapBlock (Go.Sort.ahead w m) g0 _).heap ++ os)[b]? = _
        have hm := heap_mapBlock_other (w := Go.Sort.ahead w m) (f := putCells enc 0 dk) hne
        rw [Array.getElem?_append_left (heap_lt hm hb)]
        exact hm
      have hGo : ∀ i : Fin (n' + 1), ∀ b ∈ G i.val, b < w.heap.size ∧ b ≠ g0 := fun i b hb => by
        have := c5 i.val i.isLt b hb
        exact ⟨hlt b this.1, fun e => this.2 (by simp [e])⟩
      have hcon := Any.slices_SortFunc L enc (fun x => (hcell x.val x.isLt).2) cf hO g #[] g0 0 m0 d w heg (fun m os dk _ x y =>
        hcmp (R x) (R y) (hd x.val) (hd y.val) (G x.val) (G y.val) _ ((hti x).read'.congr fun b hb => hother m dk os b (hGo x b hb).1 (hGo x b hb).2) ((hti y).read'.congr fun b hb => hother m dk os b (hGo y b hb).1 (hGo y b hb).2)) hH hg0 (by rw [hds, ← hn]; exact hl)
      have hn0 : n0 = n' + 1 := by omega
      subst hn0
      rw [hds] at hcon
      refine hcon.mono fun e w' hR => ?_
      obtain ⟨rfl, d', n2, os, hP, hS, rfl⟩ := hR
      obtain ⟨p1, _, p3⟩ := hP
      have hd's : d'.size = n' + 1 := by rw [p1, hds]
      have x1 : d'.extract 0 (n' + 1) = d' := by have h := Array.extract_size (xs := d'); rw [hd's] at h; exact h
      have x2 : d.extract 0 (n' + 1) = d := by have h := Array.extract_size (xs := d); rw [hds] at h; exact h
      rw [x1, x2] at p3
      have hLp : d'.toList.Perm (List.finRange (n' + 1)) := by simpa [d] using p3
      have hLn : d'.toList.Nodup := hLp.nodup_iff.2 (List.nodup_finRange _)
      have hmapR : (List.finRange (n' + 1)).map R = rows := by
        apply List.ext_getElem?
        intro i
        by_cases hi : i < n' + 1
        · rw [List.getElem?_map, List.getElem?_eq_getElem (by simpa using hi)]
          have := hRi ⟨i, hi⟩
          simp at this ⊢
          exact this.symm
        · rw [List.getElem?_eq_none (by simp; omega), List.getElem?_eq_none (by omega)]
      have hLR : d'.toList.map R = sortG rless rows := by
        refine sortG_unique rless_so ?_ ?_
        · rw [← hmapR]; exact hLp.map R
        · rw [List.pairwise_map, List.pairwise_iff_getElem]
          intro i j hi hj hij
          have hi' : i < d'.size := by simpa using hi
          have hj' : j < d'.size := by simpa using hj
          have := hS i j (Nat.zero_le _) hij (by omega)
          rw [getElem!_pos d' j hj', getElem!_pos d' i hi'] at this
          simpa [ltOf, cf, rless] using this
      have hw1 : (sortWorld enc w g0 0 n2 d' os).heap[g0]? = some (.cells (putCells enc 0 d' cur) e' (0, 0)) := by
        unfold sortWorld grow putRow
        show ((mapBlock (Go.Sort.ahead w n2) g0 _).heap ++ os)[g0]? = _
        have hm := heap_mapBlock (w := Go.Sort.ahead w n2) (f := putCells enc 0 d') q3
        rw [Array.getElem?_append_left (Array.getElem?_eq_some_iff.1 hm).1]
        exact hm
      have hch : Chg w (sortWorld enc w g0 0 n2 d' os) [g0] := ⟨rfl, rfl, rfl, by unfold sortWorld; rw [size_grow, Go.Sort.size_putRow]; exact Nat.le_add_right _ _, fun b hb hn => hother n2 d' os b hb (by simpa using hn)⟩
      have hsz : (putCells enc 0 d' cur).size = m0 * 1 := by unfold putCells; simp [q4]
      have hcells : ∀ i x, d'.toList[i]? = some x → (sortWorld enc w g0 0 n2 d' os).cell? ⟨g0, 0 + i, none⟩ = some (hd x.val) := fun i x hi => by
        have hi1 : i < d'.size := by have := (List.getElem?_eq_some_iff.1 hi).1; simpa using this
        have hi2 : i < cur.size := by rw [q4]; omega
        have hx : d'[i] = x := by have := (List.getElem?_eq_some_iff.1 hi).2; simpa using this
        simp only [World.cell?, hw1, Nat.zero_add]
        unfold putCells
        rw [Array.getElem?_mapIdx, Array.getElem?_eq_getElem hi2]
        simp [hi1, hx, enc]
      have hrow : C true (sortWorld enc w g0 0 n2 d' os) (.sl 1 (d'.toList.map fun i => [.v (hd i.val)])) (.slice (some ⟨g0, 0, none⟩) (n' + 1) m0) [g0] := by
        unfold C
        have hj := Rws_join (o := true) (w := sortWorld enc w g0 0 n2 d' os) (b := g0) (off := 0) (t := fun i : Fin (n' + 1) => T.v (hd i.val)) (h := fun i => hd i.val) (G := fun _ => ([] : List Nat)) (l := d'.toList) fun i x hi => ⟨hcells i x hi, by simp only [C]; exact ⟨trivial, trivial, (hcell x.val x.isLt).2⟩⟩
        have hz : d'.toList.flatMap (fun _ => ([] : List Nat)) = [] := by rw [List.flatMap_eq_nil_iff]; intro _ _; rfl
        rw [hz] at hj
        exact ⟨_, _, _, rfl, by simp [hd's], e2, e3, .inr ⟨g0, 0, [], rfl, rfl, (Array.getElem?_eq_some_iff.1 hw1).1, fun _ => ⟨rfl, _, e', hw1, hsz⟩, hj⟩⟩
      have hall := C_join (t := fun i : Fin (n' + 1) => T.sl 1 ((R i).map cInt)) (h := fun i => hd i.val) (G := fun i => G i.val) hrow fun x _ => (hti x).congr fun b hb => hother n2 d' os b (hGo x b hb).1 (hGo x b hb).2
      have hflat : (if d'.toList = [] then [] else d'.toList.flatMap fun i => G i.val) = d'.toList.flatMap fun i => G i.val := by split <;> simp_all
      rw [hflat] at hall
      have hres : (d'.toList.map fun i => [T.sl 1 ((R i).map cInt)]) = (sortG rless rows).map cR := by rw [← hLR, List.map_map]; rfl
      rw [hres] at hall
      have hin : ∀ b ∈ d'.toList.flatMap (fun i => G i.val), ∃ i : Fin (n' + 1), b ∈ G i.val := fun b hb => by
        obtain ⟨i, _, hb⟩ := List.mem_flatMap.1 hb
        exact ⟨i, hb⟩
      refine ⟨rfl, ⟨hch.os, hch.tape, hch.output, hch.size, fun b hb hn => hch.block b hb fun h => hn (c4 b (by simp at h; simp [h]))⟩, _, hall, List.nodup_append.2 ⟨by simp, nodup_flatMap hLn (fun i _ => c6 i.val i.isLt) (fun i _ j _ hne => c7 i.val j.val i.isLt j.isLt fun e => hne (Fin.ext e)), fun b hb c hc ebc => ?_⟩, fun b hb => ?_⟩
      · subst ebc
        obtain ⟨i, hi⟩ := hin b hc
        exact (hGo i b hi).2 (by simpa using hb)
      · rcases List.mem_append.1 hb with hb | hb
        · simp only [List.mem_singleton] at hb
          subst hb
          exact ⟨c4 _ (by simp), _, _, hw1⟩
        · obtain ⟨i, hi⟩ := hin b hb
          have q := c5 i.val i.isLt b hi
          obtain ⟨cc, ee, o3⟩ := hth b q.1
          exact ⟨q.1, cc, ee, (hother n2 d' os b (hGo i b hi).1 (hGo i b hi).2).trans o3⟩⟩
end
end Go.Q
