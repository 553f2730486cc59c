/- The library's strings and numbers, for the walks: what leans on the library's own variables. -/
import Derived.Test.YtoealglkenhphaaGreatDoorB80xa
import Derived.Test.YtoealglkenhphaaGreatDoorB74xa
import Derived.Shelf.Strings.SplitShaped
import Derived.Shelf.Strings.Shaped
import Derived.Shelf.Strings.Prefix
import Derived.Shelf.Small.Strs
set_option linter.unusedVariables false
set_option linter.unusedSimpArgs false
set_option maxHeartbeats 1000000
set_option maxRecDepth 100000
namespace Go.Q
open Go.RowKit
theorem V0s_vs {o : Bool} {w : World} : ∀ (xs : List Value), xs.all Value.oneCell' = true → V0s o w (xs.map fun x => .one (.v x)) xs []
  | [], _ => ⟨rfl, rfl⟩
  | x :: xs, h => by
    rw [List.all_cons, Bool.and_eq_true] at h
    exact ⟨x, xs, [], [], rfl, by unfold V0r C; exact ⟨rfl, rfl, h.1⟩, V0s_vs xs h.2, rfl⟩
end Go.Q
namespace Go.Proofs.YtoealglkenhphaaGreatDoor
open Go.RowKit Go.Q Go.D Go.Shelf
def Tryz.laysM171_ren:Go.Shelf.Ren:=⟨fun|171=>28|243=>48|246=>72|283=>93|284=>94|285=>95|286=>96|129=>108|317=>107|318=>109|319=>110|320=>111|337=>116|338=>117|n=>n,fun|3=>3|9=>9|2=>2|4=>4|171=>112|0=>0|53=>105|37=>64|5=>5|173=>115|212=>134|51=>102|20=>20|213=>135|46=>83|232=>145|233=>146|n=>n,fun|17=>5|18=>6|19=>7|n=>n⟩
theorem Tryz.laysM171:Go.Proofs.LaysM.n171 Tryz.prog Tryz.laysM171_ren:={
 mixed:=by kernel_rfl
 f129:=Tryz.func108.trans (congrArg some (by kernel_rfl))
 f171:=Tryz.func28.trans (congrArg some (by kernel_rfl))
 f243:=Tryz.func48.trans (congrArg some (by kernel_rfl))
 f246:=Tryz.func72.trans (congrArg some (by kernel_rfl))
 f283:=Tryz.func93.trans (congrArg some (by kernel_rfl))
 f284:=Tryz.func94.trans (congrArg some (by kernel_rfl))
 f285:=Tryz.func95.trans (congrArg some (by kernel_rfl))
 f286:=Tryz.func96.trans (congrArg some (by kernel_rfl))
 f317:=Tryz.func107.trans (congrArg some (by kernel_rfl))
 f318:=Tryz.func109.trans (congrArg some (by kernel_rfl))
 f319:=Tryz.func110.trans (congrArg some (by kernel_rfl))
 f320:=Tryz.func111.trans (congrArg some (by kernel_rfl))
 f337:=Tryz.func116.trans (congrArg some (by kernel_rfl))
 f338:=Tryz.func117.trans (congrArg some (by kernel_rfl))
 t0:=Tryz.underlying0
 a0:=Tryz.isAgg0
 z0:=Tryz.sizeOf0
 v0:=Tryz.zeroValue0
 t2:=Tryz.underlying2
 a2:=Tryz.isAgg2
 z2:=Tryz.sizeOf2
 v2:=Tryz.zeroValue2
 t3:=Tryz.underlying3
 a3:=Tryz.isAgg3
 z3:=Tryz.sizeOf3
 v3:=Tryz.zeroValue3
 t4:=Tryz.underlying4
 a4:=Tryz.isAgg4
 z4:=Tryz.sizeOf4
 v4:=Tryz.zeroValue4
 t5:=Tryz.underlying5
 a5:=Tryz.isAgg5
 z5:=Tryz.sizeOf5
 v5:=Tryz.zeroValue5
 t9:=Tryz.underlying9
 a9:=Tryz.isAgg9
 z9:=Tryz.sizeOf9
 v9:=Tryz.zeroValue9
 t20:=Tryz.underlying20
 a20:=Tryz.isAgg20
 z20:=Tryz.sizeOf20
 v20:=Tryz.zeroValue20
 t37:=Tryz.underlying64
 a37:=Tryz.isAgg64
 z37:=Tryz.sizeOf64
 v37:=Tryz.zeroValue64
 t46:=Tryz.underlying83
 a46:=Tryz.isAgg83
 z46:=Tryz.sizeOf83
 v46:=Tryz.zeroValue83
 t51:=Tryz.underlying102
 a51:=Tryz.isAgg102
 z51:=Tryz.sizeOf102
 v51:=Tryz.zeroValue102
 t53:=Tryz.underlying105
 a53:=Tryz.isAgg105
 z53:=Tryz.sizeOf105
 v53:=Tryz.zeroValue105
 t171:=Tryz.underlying112
 a171:=Tryz.isAgg112
 z171:=Tryz.sizeOf112
 v171:=Tryz.zeroValue112
 t173:=Tryz.underlying115
 a173:=Tryz.isAgg115
 z173:=Tryz.sizeOf115
 v173:=Tryz.zeroValue115
 t212:=Tryz.underlying134
 a212:=Tryz.isAgg134
 z212:=Tryz.sizeOf134
 v212:=Tryz.zeroValue134
 t213:=Tryz.underlying135
 a213:=Tryz.isAgg135
 z213:=Tryz.sizeOf135
 t232:=Tryz.underlying145
 a232:=Tryz.isAgg145
 z232:=Tryz.sizeOf145
 v232:=Tryz.zeroValue145
 t233:=Tryz.underlying146
 a233:=Tryz.isAgg146
 z233:=Tryz.sizeOf146
 v233:=Tryz.zeroValue146
 g17:=by kernel_rfl
 g18:=by kernel_rfl
 g19:=by kernel_rfl
 i0:=by kernel_rfl
 i2:=by kernel_rfl
 i3:=by kernel_rfl
 i4:=by kernel_rfl
 i5:=by kernel_rfl
 i9:=by kernel_rfl
 i20:=by kernel_rfl
 i37:=by kernel_rfl
 i46:=by kernel_rfl
 i51:=by kernel_rfl
 i53:=by kernel_rfl
 i171:=by kernel_rfl
 i173:=by kernel_rfl
 i212:=by kernel_rfl
 i232:=by kernel_rfl
 i233:=by kernel_rfl
 m17:=by kernel_rfl
 m18:=by kernel_rfl
 m19:=by kernel_rfl }
theorem strconvItoaA (n : Int) (h0 : -9223372036854775808 ≤ n) (h1 : n ≤ 9223372036854775807) : FnT Tryz.prog 28 [.one (.v (.int .i64 n))] (.a (.one (.v (.string (bs (itoS n)))))) := by
  refine ⟨⟨_, Tryz.func28, by kernel_rfl, by kernel_rfl⟩, fun w vs F hG hv => ?_⟩
  obtain ⟨v1, vr, G1, G2, rfl, g1, ⟨rfl, rfl⟩, rfl⟩ := hv
  simp only [V0r, C] at g1
  obtain ⟨rfl, rfl, _⟩ := g1
  have htab : Lib.TabIs Tryz.prog w "internal/strconv.uint64pow10" .u64 Lib.pow10Tab := by
    obtain ⟨w0, ⟨_, h2, _⟩, h3⟩ := hG.ex
    have hg : Tryz.prog.globalNamed "internal/strconv.uint64pow10" = some ((Tryz.prog.globalNamed "internal/strconv.uint64pow10").getD 0) := by kernel_rfl
    have hl : (Tryz.prog.globalNamed "internal/strconv.uint64pow10").getD 0 < Tryz.prog.low := Nat.lt_trans (of_decide_eq_true (by kernel_rfl)) low_lt
    unfold Lib.TabIs World.var? at h2 ⊢
    rw [hg] at h2 ⊢
    simp only [Option.bind_some] at h2 ⊢
    rw [h3 _ hl]; exact h2
  have hcon := Any.strconv_Itoa Tryz.laysM171 n h0 h1 w htab
  change Calls Tryz.prog 28 _ _ _ at hcon
  refine hcon.mono ?_
  rintro e w' ⟨rfl, k, os, rfl⟩
  refine ⟨_, [], rfl, ?_, List.nodup_nil, by simp, ⟨rfl, rfl, rfl, (by show w.heap.size ≤ (w.heap ++ os).size; rw [Array.size_append]; omega), fun j hj => (by show (w.heap ++ os)[j]? = w.heap[j]?; exact Array.getElem?_append_left hj)⟩⟩
  simp [Vr, V0r, C]
  exact ⟨rfl, rfl⟩
def Tryz.laysM146_ren:Go.Shelf.Ren:=⟨fun|146=>12|221=>25|268=>42|138=>43|143=>44|195=>60|197=>61|218=>62|219=>45|260=>87|217=>63|225=>64|224=>65|267=>66|266=>88|314=>89|n=>n,fun|9=>9|31=>30|3=>3|4=>4|0=>0|105=>79|21=>21|5=>5|46=>83|119=>125|139=>128|138=>127|146=>103|51=>102|n=>n,fun|1=>0|3=>3|4=>4|n=>n⟩
theorem Tryz.laysM146:Go.Proofs.LaysM.n146 Tryz.prog Tryz.laysM146_ren:={
 mixed:=by kernel_rfl
 f138:=Tryz.func43.trans (congrArg some (by kernel_rfl))
 f143:=Tryz.func44.trans (congrArg some (by kernel_rfl))
 f146:=Tryz.func12.trans (congrArg some (by kernel_rfl))
 f195:=Tryz.func60.trans (congrArg some (by kernel_rfl))
 f197:=Tryz.func61.trans (congrArg some (by kernel_rfl))
 f217:=Tryz.func63.trans (congrArg some (by kernel_rfl))
 f218:=Tryz.func62.trans (congrArg some (by kernel_rfl))
 f219:=Tryz.func45.trans (congrArg some (by kernel_rfl))
 f221:=Tryz.func25.trans (congrArg some (by kernel_rfl))
 f224:=Tryz.func65.trans (congrArg some (by kernel_rfl))
 f225:=Tryz.func64.trans (congrArg some (by kernel_rfl))
 f260:=Tryz.func87.trans (congrArg some (by kernel_rfl))
 f266:=Tryz.func88.trans (congrArg some (by kernel_rfl))
 f267:=Tryz.func66.trans (congrArg some (by kernel_rfl))
 f268:=Tryz.func42.trans (congrArg some (by kernel_rfl))
 f314:=Tryz.func89.trans (congrArg some (by kernel_rfl))
 t0:=Tryz.underlying0
 a0:=Tryz.isAgg0
 z0:=Tryz.sizeOf0
 v0:=Tryz.zeroValue0
 t3:=Tryz.underlying3
 a3:=Tryz.isAgg3
 z3:=Tryz.sizeOf3
 v3:=Tryz.zeroValue3
 t4:=Tryz.underlying4
 a4:=Tryz.isAgg4
 z4:=Tryz.sizeOf4
 v4:=Tryz.zeroValue4
 t5:=Tryz.underlying5
 a5:=Tryz.isAgg5
 z5:=Tryz.sizeOf5
 v5:=Tryz.zeroValue5
 t9:=Tryz.underlying9
 a9:=Tryz.isAgg9
 z9:=Tryz.sizeOf9
 v9:=Tryz.zeroValue9
 t21:=Tryz.underlying21
 a21:=Tryz.isAgg21
 z21:=Tryz.sizeOf21
 v21:=Tryz.zeroValue21
 t31:=Tryz.underlying30
 a31:=Tryz.isAgg30
 z31:=Tryz.sizeOf30
 v31:=Tryz.zeroValue30
 t46:=Tryz.underlying83
 a46:=Tryz.isAgg83
 z46:=Tryz.sizeOf83
 v46:=Tryz.zeroValue83
 t51:=Tryz.underlying102
 a51:=Tryz.isAgg102
 z51:=Tryz.sizeOf102
 v51:=Tryz.zeroValue102
 t105:=Tryz.underlying79
 a105:=Tryz.isAgg79
 z105:=Tryz.sizeOf79
 v105:=Tryz.zeroValue79
 t119:=Tryz.underlying125
 a119:=Tryz.isAgg125
 z119:=Tryz.sizeOf125
 t138:=Tryz.underlying127
 a138:=Tryz.isAgg127
 z138:=Tryz.sizeOf127
 v138:=Tryz.zeroValue127
 t139:=Tryz.underlying128
 a139:=Tryz.isAgg128
 z139:=Tryz.sizeOf128
 v139:=Tryz.zeroValue128
 t146:=Tryz.underlying103
 a146:=Tryz.isAgg103
 z146:=Tryz.sizeOf103
 v146:=Tryz.zeroValue103
 g1:=by kernel_rfl
 g3:=by kernel_rfl
 g4:=by kernel_rfl
 i0:=by kernel_rfl
 i3:=by kernel_rfl
 i4:=by kernel_rfl
 i5:=by kernel_rfl
 i9:=by kernel_rfl
 i21:=by kernel_rfl
 i31:=by kernel_rfl
 i46:=by kernel_rfl
 i51:=by kernel_rfl
 i105:=by kernel_rfl
 i138:=by kernel_rfl
 i139:=by kernel_rfl
 i146:=by kernel_rfl
 m1:=by kernel_rfl
 s1_3:=fun w h=>Go.Proofs.cell_of_shapedOpen_int (zero:=#[.int .i64 0]) (t:=3) h (of_decide_eq_true (by kernel_rfl)) (by kernel_rfl) rfl (by kernel_rfl) (by kernel_rfl) Tryz.underlying3
 m3:=by kernel_rfl
 m4:=by kernel_rfl }
theorem stringsSplit (s : ByteArray) (c : UInt8) (hs : s.size < 4294967281) : FnT Tryz.prog 12 [.one (.v (.string s)), .one (.v (.string (bs [c])))] (.a (.one (.sl 1 ((splitL c s.data.toList).map cStr)))) := by
  refine ⟨⟨_, Tryz.func12, by kernel_rfl, by kernel_rfl⟩, fun w vs F hG hv => ?_⟩
  obtain ⟨v1, vr, G1, G2, rfl, g1, ⟨v2, vr2, G3, G4, rfl, g2, ⟨rfl, rfl⟩, rfl⟩, rfl⟩ := hv
  simp only [V0r, C] at g1 g2
  obtain ⟨rfl, rfl, _⟩ := g1
  obtain ⟨rfl, rfl, _⟩ := g2
  have hgl : Tryz.laysM146_ren.g 1 < Tryz.prog.low := Nat.lt_trans (of_decide_eq_true (by kernel_rfl)) low_lt
  obtain ⟨m, hm⟩ : ∃ m, w.cell? ⟨Tryz.laysM146_ren.g 1, 0, none⟩ = some (.int .i64 m) := by
    obtain ⟨w0, ⟨h2, _⟩, h3⟩ := hG.ex
    obtain ⟨m, hm⟩ := Tryz.laysM146.s1_3 w0 h2
    exact ⟨m, (World.cell?_of_block (a := ⟨Tryz.laysM146_ren.g 1, 0, none⟩) (h3 _ hgl)).trans hm⟩
  have hcon := Any.strings_Split { Tryz.laysM146 with } Tryz.laysM146.i9 s (bs [c]) m w hs hm (by rw [bs_size]; simp)
  change Calls Tryz.prog 12 _ _ _ at hcon
  have hcnt : Lib.countB s (bs [c]) = s.data.toList.count c := by
    have e : Lib.countB s (bs [c]) = Lib.count s.data.toList (bs [c]).data.toList := rfl
    rw [e, bs_list, Lib.count_one]
  rw [hcnt, split_eq c _ s rfl] at hcon
  have hlen := splitL_len c s.data.toList
  have hle : s.data.toList.count c ≤ s.size := by
    have := List.count_le_length (a := c) (l := s.data.toList)
    rw [Array.length_toList] at this; exact this
  refine hcon.mono ?_
  rintro e w' ⟨rfl, rfl⟩
  have hb : (w.alloc (.cells (((splitL c s.data.toList).map bs).map Value.string).toArray (Tryz.laysM146_ren.t 9))).heap[w.heap.size]? = some (.cells (((splitL c s.data.toList).map bs).map Value.string).toArray (Tryz.laysM146_ren.t 9)) := by
    show (w.heap.push _)[w.heap.size]? = _
    rw [Array.getElem?_push, if_pos rfl]
  have key : ∀ (xs pre : List (List UInt8)) (all : List Value) (W : World) (e : TypeId), W.heap[w.heap.size]? = some (.cells all.toArray e) → all = (pre ++ xs).map (fun x => Value.string (bs x)) → Rws true W w.heap.size 1 pre.length (xs.map cStr) [] := by
    intro xs
    induction xs with
    | nil => intro pre all W e h1 h2; simp only [List.map_nil, Rws]
    | cons x xs ih =>
      intro pre all W e h1 h2
      have := ih (pre ++ [x]) all W e h1 (by rw [h2]; simp)
      rw [List.length_append, List.length_singleton] at this
      rw [List.map_cons]
      unfold Rws
      refine ⟨[], [], rfl, ?_, this, rfl⟩
      unfold cStr Ms
      refine ⟨_, [], [], ?_, by unfold C; exact ⟨rfl, rfl, rfl⟩, by unfold Ms; rfl, rfl⟩
      simp [World.cell?, h1, h2]
  refine ⟨_, [w.heap.size], rfl, ?_, by simp, fun b hb' => ?_, Below.alloc (Below.refl _ _) (Nat.le_refl _) _⟩
  · show C true _ (.sl 1 _) _ _
    unfold C
    refine ⟨_, _, _, rfl, by rw [List.length_map, hlen], Nat.le_refl _, by (show _ ≤ maxLen); (unfold maxLen); omega, .inr ⟨_, 0, [], rfl, rfl, ?_, fun _ => ⟨rfl, _, _, hb, by simp [hlen]⟩, ?_⟩⟩
    · show w.heap.size < (w.heap.push _).size
      simp
    · exact key _ [] _ _ _ hb (by simp)
  · rw [List.mem_singleton] at hb'
    subst hb'
    refine ⟨Nat.le_refl _, ?_⟩
    exact ⟨_, _, hb⟩
def Tryz.laysM145_ren:Go.Shelf.Ren:=⟨fun|145=>13|220=>26|219=>45|217=>63|225=>64|224=>65|267=>66|266=>88|314=>89|n=>n,fun|9=>9|4=>4|59=>41|3=>3|5=>5|46=>83|146=>103|51=>102|n=>n,fun|1=>0|n=>n⟩
theorem Tryz.laysM145:Go.Proofs.LaysM.n145 Tryz.prog Tryz.laysM145_ren:={
 mixed:=by kernel_rfl
 f145:=Tryz.func13.trans (congrArg some (by kernel_rfl))
 f217:=Tryz.func63.trans (congrArg some (by kernel_rfl))
 f219:=Tryz.func45.trans (congrArg some (by kernel_rfl))
 f220:=Tryz.func26.trans (congrArg some (by kernel_rfl))
 f224:=Tryz.func65.trans (congrArg some (by kernel_rfl))
 f225:=Tryz.func64.trans (congrArg some (by kernel_rfl))
 f266:=Tryz.func88.trans (congrArg some (by kernel_rfl))
 f267:=Tryz.func66.trans (congrArg some (by kernel_rfl))
 f314:=Tryz.func89.trans (congrArg some (by kernel_rfl))
 t3:=Tryz.underlying3
 a3:=Tryz.isAgg3
 z3:=Tryz.sizeOf3
 v3:=Tryz.zeroValue3
 t4:=Tryz.underlying4
 a4:=Tryz.isAgg4
 z4:=Tryz.sizeOf4
 v4:=Tryz.zeroValue4
 t5:=Tryz.underlying5
 a5:=Tryz.isAgg5
 z5:=Tryz.sizeOf5
 v5:=Tryz.zeroValue5
 t9:=Tryz.underlying9
 a9:=Tryz.isAgg9
 z9:=Tryz.sizeOf9
 v9:=Tryz.zeroValue9
 t46:=Tryz.underlying83
 a46:=Tryz.isAgg83
 z46:=Tryz.sizeOf83
 v46:=Tryz.zeroValue83
 t51:=Tryz.underlying102
 a51:=Tryz.isAgg102
 z51:=Tryz.sizeOf102
 v51:=Tryz.zeroValue102
 t59:=Tryz.underlying41
 a59:=Tryz.isAgg41
 z59:=Tryz.sizeOf41
 v59:=Tryz.zeroValue41
 t146:=Tryz.underlying103
 a146:=Tryz.isAgg103
 z146:=Tryz.sizeOf103
 v146:=Tryz.zeroValue103
 g1:=by kernel_rfl
 i3:=by kernel_rfl
 i4:=by kernel_rfl
 i5:=by kernel_rfl
 i9:=by kernel_rfl
 i46:=by kernel_rfl
 i51:=by kernel_rfl
 i59:=by kernel_rfl
 i146:=by kernel_rfl
 m1:=by kernel_rfl
 s1_3:=fun w h=>Go.Proofs.cell_of_shapedOpen_int (zero:=#[.int .i64 0]) (t:=3) h (of_decide_eq_true (by kernel_rfl)) (by kernel_rfl) rfl (by kernel_rfl) (by kernel_rfl) Tryz.underlying3 }
theorem stringsCut (s : ByteArray) (sep : List UInt8) (hs : s.size < 4294967281) : FnT Tryz.prog 13 [.one (.v (.string s)), .one (.v (.string (bs sep)))] (.tup [.one (.v (.string (bs (Lib.cut s.data.toList sep).1))), .one (.v (.string (bs (Lib.cut s.data.toList sep).2.1))), .one (.v (.bool (Lib.cut s.data.toList sep).2.2))]) := by
  refine ⟨⟨_, Tryz.func13, by kernel_rfl, by kernel_rfl⟩, fun w vs F hG hv => ?_⟩
  obtain ⟨v1, vr, G1, G2, rfl, g1, ⟨v2, vr2, G3, G4, rfl, g2, ⟨rfl, rfl⟩, rfl⟩, rfl⟩ := hv
  simp only [V0r, C] at g1 g2
  obtain ⟨rfl, rfl, _⟩ := g1
  obtain ⟨rfl, rfl, _⟩ := g2
  have hgl : Tryz.laysM145_ren.g 1 < Tryz.prog.low := Nat.lt_trans (of_decide_eq_true (by kernel_rfl)) low_lt
  obtain ⟨m, hm⟩ : ∃ m, w.cell? ⟨Tryz.laysM145_ren.g 1, 0, none⟩ = some (.int .i64 m) := by
    obtain ⟨w0, ⟨h2, _⟩, h3⟩ := hG.ex
    obtain ⟨m, hm⟩ := Tryz.laysM145.s1_3 w0 h2
    exact ⟨m, (World.cell?_of_block (a := ⟨Tryz.laysM145_ren.g 1, 0, none⟩) (h3 _ hgl)).trans hm⟩
  have hcon := Any.strings_Cut { Tryz.laysM145 with } s (bs sep) m w hs hm
  change Calls Tryz.prog 13 _ _ _ at hcon
  rw [bs_list] at hcon
  refine hcon.mono ?_
  rintro e w' ⟨rfl, n, rfl⟩
  refine ⟨_, [], rfl, ?_, List.nodup_nil, by simp, ⟨rfl, rfl, rfl, Nat.le_refl _, fun _ _ => rfl⟩⟩
  exact ⟨_, rfl, V0s_vs [.string (bs (Lib.cut s.data.toList sep).1), .string (bs (Lib.cut s.data.toList sep).2.1), .bool (Lib.cut s.data.toList sep).2.2] rfl⟩
def Tryz.lays137_ren:Go.Shelf.Ren:=⟨fun|137=>118|217=>63|266=>88|n=>n,fun|9=>9|5=>5|3=>3|n=>n,fun|n=>n⟩
theorem Tryz.lays137:Go.Proofs.Lays.n137 Tryz.prog Tryz.lays137_ren:={
 mixed:=by kernel_rfl
 f137:=Tryz.func118.trans (congrArg some (by kernel_rfl))
 f217:=Tryz.func63.trans (congrArg some (by kernel_rfl))
 f266:=Tryz.func88.trans (congrArg some (by kernel_rfl))
 t3:=Tryz.underlying3
 a3:=Tryz.isAgg3
 z3:=Tryz.sizeOf3
 v3:=Tryz.zeroValue3
 t5:=Tryz.underlying5
 a5:=Tryz.isAgg5
 z5:=Tryz.sizeOf5
 v5:=Tryz.zeroValue5
 t9:=Tryz.underlying9
 a9:=Tryz.isAgg9
 z9:=Tryz.sizeOf9
 v9:=Tryz.zeroValue9 }
end Go.Proofs.YtoealglkenhphaaGreatDoor
