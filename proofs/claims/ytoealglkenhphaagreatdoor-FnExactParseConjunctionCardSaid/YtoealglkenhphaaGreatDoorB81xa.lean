/- The library's strings and numbers, for the walks: what leans on the library's own variables. -/
import Derived.Test.YtoealglkenhphaaGreatDoorB80xa
import Derived.Test.YtoealglkenhphaaGreatDoorB74xa
import Derived.Shelf.Strings.SplitShaped
import Derived.Shelf.Strings.Shaped
import Derived.Shelf.Strings.Prefix
import Derived.Shelf.Small.Strs
set_option linter.unusedVariables false
set_option linter.unusedSimpArgs false
set_option maxHeartbeats 1000000
set_option maxRecDepth 100000
namespace Go.Q
open Go.RowKit
theorem V0s_vs {o : Bool} {w : World} : ∀ (xs : List Value), xs.all Value.oneCell' = true → V0s o w (xs.map fun x => .one (.v x)) xs []
  | [], _ => ⟨rfl, rfl⟩
  | x :: xs, h => by
    rw [List.all_cons, Bool.and_eq_true] at h
    exact ⟨x, xs, [], [], rfl, by unfold V0r C; exact ⟨rfl, rfl, h.1⟩, V0s_vs xs h.2, rfl⟩
end Go.Q
namespace Go.Proofs.YtoealglkenhphaaGreatDoor
open Go.RowKit Go.Q Go.D Go.Shelf
shelf_lay LaysM.n171 Nm 171 at Tryz as Tryz.laysM171
theorem strconvItoaA (n : Int) (h0 : -9223372036854775808 ≤ n) (h1 : n ≤ 9223372036854775807) : FnT Tryz.prog 28 [.one (.v (.int .i64 n))] (.a (.one (.v (.string (bs (itoS n)))))) := by
  refine ⟨⟨_, Tryz.func28, by kernel_rfl, by kernel_rfl⟩, fun w vs F hG hv => ?_⟩
  obtain ⟨v1, vr, G1, G2, rfl, g1, ⟨rfl, rfl⟩, rfl⟩ := hv
  simp only [V0r, C] at g1
  obtain ⟨rfl, rfl, _⟩ := g1
  have htab : Lib.TabIs Tryz.prog w "internal/strconv.uint64pow10" .u64 Lib.pow10Tab := by
    obtain ⟨w0, ⟨_, h2, _⟩, h3⟩ := hG.ex
    have hg : Tryz.prog.globalNamed "internal/strconv.uint64pow10" = some ((Tryz.prog.globalNamed "internal/strconv.uint64pow10").getD 0) := by kernel_rfl
    have hl : (Tryz.prog.globalNamed "internal/strconv.uint64pow10").getD 0 < Tryz.prog.low := Nat.lt_trans (of_decide_eq_true (by kernel_rfl)) low_lt
    unfold Lib.TabIs World.var? at h2 ⊢
    rw [hg] at h2 ⊢
    simp only [Option.bind_some] at h2 ⊢
    rw [h3 _ hl]; exact h2
  have hcon := Any.strconv_Itoa Tryz.laysM171 n h0 h1 w htab
  change Calls Tryz.prog 28 _ _ _ at hcon
  refine hcon.mono ?_
  rintro e w' ⟨rfl, k, os, rfl⟩
  refine ⟨_, [], rfl, ?_, List.nodup_nil, by simp, ⟨rfl, rfl, rfl, (by show w.heap.size ≤ (w.heap ++ os).size; rw [Array.size_append]; omega), fun j hj => (by show (w.heap ++ os)[j]? = w.heap[j]?; exact Array.getElem?_append_left hj)⟩⟩
  simp [Vr, V0r, C]
  exact ⟨rfl, rfl⟩
shelf_lay LaysM.n146 Nm 146 at Tryz as Tryz.laysM146
theorem stringsSplit (s : ByteArray) (c : UInt8) (hs : s.size < 4294967281) : FnT Tryz.prog 12 [.one (.v (.string s)), .one (.v (.string (bs [c])))] (.a (.one (.sl 1 ((splitL c s.data.toList).map cStr)))) := by
  refine ⟨⟨_, Tryz.func12, by kernel_rfl, by kernel_rfl⟩, fun w vs F hG hv => ?_⟩
  obtain ⟨v1, vr, G1, G2, rfl, g1, ⟨v2, vr2, G3, G4, rfl, g2, ⟨rfl, rfl⟩, rfl⟩, rfl⟩ := hv
  simp only [V0r, C] at g1 g2
  obtain ⟨rfl, rfl, _⟩ := g1
  obtain ⟨rfl, rfl, _⟩ := g2
  have hgl : Tryz.laysM146_ren.g 1 < Tryz.prog.low := Nat.lt_trans (of_decide_eq_true (by kernel_rfl)) low_lt
  obtain ⟨m, hm⟩ : ∃ m, w.cell? ⟨Tryz.laysM146_ren.g 1, 0, none⟩ = some (.int .i64 m) := by
    obtain ⟨w0, ⟨h2, _⟩, h3⟩ := hG.ex
    obtain ⟨m, hm⟩ := Tryz.laysM146.s1_3 w0 h2
    exact ⟨m, (World.cell?_of_block (a := ⟨Tryz.laysM146_ren.g 1, 0, none⟩) (h3 _ hgl)).trans hm⟩
  have hcon := Any.strings_Split { Tryz.laysM146 with } Tryz.laysM146.i9 s (bs [c]) m w hs hm (by rw [bs_size]; simp)
  change Calls Tryz.prog 12 _ _ _ at hcon
  have hcnt : Lib.countB s (bs [c]) = s.data.toList.count c := by
    have e : Lib.countB s (bs [c]) = Lib.count s.data.toList (bs [c]).data.toList := rfl
    rw [e, bs_list, Lib.count_one]
  rw [hcnt, split_eq c _ s rfl] at hcon
  have hlen := splitL_len c s.data.toList
  have hle : s.data.toList.count c ≤ s.size := by
    have := List.count_le_length (a := c) (l := s.data.toList)
    rw [Array.length_toList] at this; exact this
  refine hcon.mono ?_
  rintro e w' ⟨rfl, rfl⟩
  have hb : (w.alloc (.cells (((splitL c s.data.toList).map bs).map Value.string).toArray (Tryz.laysM146_ren.t 9))).heap[w.heap.size]? = some (.cells (((splitL c s.data.toList).map bs).map Value.string).toArray (Tryz.laysM146_ren.t 9)) := by
    show (w.heap.push _)[w.heap.size]? = _
    rw [Array.getElem?_push, if_pos rfl]
  have key : ∀ (xs pre : List (List UInt8)) (all : List Value) (W : World) (e : TypeId), W.heap[w.heap.size]? = some (.cells all.toArray e) → all = (pre ++ xs).map (fun x => Value.string (bs x)) → Rws true W w.heap.size 1 pre.length (xs.map cStr) [] := by
    intro xs
    induction xs with
    | nil => intro pre all W e h1 h2; simp only [List.map_nil, Rws]
    | cons x xs ih =>
      intro pre all W e h1 h2
      have := ih (pre ++ [x]) all W e h1 (by rw [h2]; simp)
      rw [List.length_append, List.length_singleton] at this
      rw [List.map_cons]
      unfold Rws
      refine ⟨[], [], rfl, ?_, this, rfl⟩
      unfold cStr Ms
      refine ⟨_, [], [], ?_, by unfold C; exact ⟨rfl, rfl, rfl⟩, by unfold Ms; rfl, rfl⟩
      simp [World.cell?, h1, h2]
  refine ⟨_, [w.heap.size], rfl, ?_, by simp, fun b hb' => ?_, Below.alloc (Below.refl _ _) (Nat.le_refl _) _⟩
  · show C true _ (.sl 1 _) _ _
    unfold C
    refine ⟨_, _, _, rfl, by rw [List.length_map, hlen], Nat.le_refl _, by (show _ ≤ maxLen); (unfold maxLen); omega, .inr ⟨_, 0, [], rfl, rfl, ?_, fun _ => ⟨rfl, _, _, hb, by simp [hlen]⟩, ?_⟩⟩
    · show w.heap.size < (w.heap.push _).size
      simp
    · exact key _ [] _ _ _ hb (by simp)
  · rw [List.mem_singleton] at hb'
    subst hb'
    refine ⟨Nat.le_refl _, ?_⟩
    exact ⟨_, _, hb⟩
shelf_lay LaysM.n145 Nm 145 at Tryz as Tryz.laysM145
theorem stringsCut (s : ByteArray) (sep : List UInt8) (hs : s.size < 4294967281) : FnT Tryz.prog 13 [.one (.v (.string s)), .one (.v (.string (bs sep)))] (.tup [.one (.v (.string (bs (Lib.cut s.data.toList sep).1))), .one (.v (.string (bs (Lib.cut s.data.toList sep).2.1))), .one (.v (.bool (Lib.cut s.data.toList sep).2.2))]) := by
  refine ⟨⟨_, Tryz.func13, by kernel_rfl, by kernel_rfl⟩, fun w vs F hG hv => ?_⟩
  obtain ⟨v1, vr, G1, G2, rfl, g1, ⟨v2, vr2, G3, G4, rfl, g2, ⟨rfl, rfl⟩, rfl⟩, rfl⟩ := hv
  simp only [V0r, C] at g1 g2
  obtain ⟨rfl, rfl, _⟩ := g1
  obtain ⟨rfl, rfl, _⟩ := g2
  have hgl : Tryz.laysM145_ren.g 1 < Tryz.prog.low := Nat.lt_trans (of_decide_eq_true (by kernel_rfl)) low_lt
  obtain ⟨m, hm⟩ : ∃ m, w.cell? ⟨Tryz.laysM145_ren.g 1, 0, none⟩ = some (.int .i64 m) := by
    obtain ⟨w0, ⟨h2, _⟩, h3⟩ := hG.ex
    obtain ⟨m, hm⟩ := Tryz.laysM145.s1_3 w0 h2
    exact ⟨m, (World.cell?_of_block (a := ⟨Tryz.laysM145_ren.g 1, 0, none⟩) (h3 _ hgl)).trans hm⟩
  have hcon := Any.strings_Cut { Tryz.laysM145 with } s (bs sep) m w hs hm
  change Calls Tryz.prog 13 _ _ _ at hcon
  rw [bs_list] at hcon
  refine hcon.mono ?_
  rintro e w' ⟨rfl, n, rfl⟩
  refine ⟨_, [], rfl, ?_, List.nodup_nil, by simp, ⟨rfl, rfl, rfl, Nat.le_refl _, fun _ _ => rfl⟩⟩
  exact ⟨_, rfl, V0s_vs [.string (bs (Lib.cut s.data.toList sep).1), .string (bs (Lib.cut s.data.toList sep).2.1), .bool (Lib.cut s.data.toList sep).2.2] rfl⟩
shelf_lay Lays.n137 Nm 137 at Tryz as Tryz.lays137
end Go.Proofs.YtoealglkenhphaaGreatDoor
