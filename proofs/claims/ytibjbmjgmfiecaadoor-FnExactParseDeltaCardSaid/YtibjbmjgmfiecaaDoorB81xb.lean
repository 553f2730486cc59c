/- The library's strings and numbers, for the walks: what leans on the library's own variables. -/
import Derived.Test.YtibjbmjgmfiecaaDoorB80xb
import Derived.Test.YtibjbmjgmfiecaaDoorB74xb
import Derived.Shelf.Strings.SplitShaped
import Derived.Shelf.Strings.Shaped
import Derived.Shelf.Strings.Prefix
import Derived.Shelf.Small.Strs
set_option linter.unusedVariables false
set_option linter.unusedSimpArgs false
set_option maxHeartbeats 1000000
set_option maxRecDepth 100000
namespace Go.Q
open Go.RowKit
theorem V0s_vs {o : Bool} {w : World} : ∀ (xs : List Value), xs.all Value.oneCell' = true → V0s o w (xs.map fun x => .one (.v x)) xs []
  | [], _ => ⟨rfl, rfl⟩
  | x :: xs, h => by
    rw [List.all_cons, Bool.and_eq_true] at h
    exact ⟨x, xs, [], [], rfl, by unfold V0r C; exact ⟨rfl, rfl, h.1⟩, V0s_vs xs h.2, rfl⟩
end Go.Q
namespace Go.Proofs.YtibjbmjgmfiecaaDoor
open Go.RowKit Go.Q Go.D Go.Shelf
def Tryd.laysM171_ren:Go.Shelf.Ren:=⟨fun|171=>62|243=>82|246=>98|283=>116|284=>117|285=>118|286=>119|129=>129|317=>128|318=>130|319=>131|320=>132|337=>135|338=>136|n=>n,fun|3=>3|9=>9|2=>2|4=>4|171=>132|0=>0|53=>133|37=>82|5=>5|173=>136|212=>151|51=>138|20=>20|213=>152|46=>117|232=>163|233=>164|n=>n,fun|17=>3|18=>6|19=>7|n=>n⟩
theorem Tryd.laysM171:Go.Proofs.LaysM.n171 Tryd.prog Tryd.laysM171_ren:={
 mixed:=by kernel_rfl
 f129:=Tryd.func129.trans (congrArg some (by kernel_rfl))
 f171:=Tryd.func62.trans (congrArg some (by kernel_rfl))
 f243:=Tryd.func82.trans (congrArg some (by kernel_rfl))
 f246:=Tryd.func98.trans (congrArg some (by kernel_rfl))
 f283:=Tryd.func116.trans (congrArg some (by kernel_rfl))
 f284:=Tryd.func117.trans (congrArg some (by kernel_rfl))
 f285:=Tryd.func118.trans (congrArg some (by kernel_rfl))
 f286:=Tryd.func119.trans (congrArg some (by kernel_rfl))
 f317:=Tryd.func128.trans (congrArg some (by kernel_rfl))
 f318:=Tryd.func130.trans (congrArg some (by kernel_rfl))
 f319:=Tryd.func131.trans (congrArg some (by kernel_rfl))
 f320:=Tryd.func132.trans (congrArg some (by kernel_rfl))
 f337:=Tryd.func135.trans (congrArg some (by kernel_rfl))
 f338:=Tryd.func136.trans (congrArg some (by kernel_rfl))
 t0:=Tryd.underlying0
 a0:=Tryd.isAgg0
 z0:=Tryd.sizeOf0
 v0:=Tryd.zeroValue0
 t2:=Tryd.underlying2
 a2:=Tryd.isAgg2
 z2:=Tryd.sizeOf2
 v2:=Tryd.zeroValue2
 t3:=Tryd.underlying3
 a3:=Tryd.isAgg3
 z3:=Tryd.sizeOf3
 v3:=Tryd.zeroValue3
 t4:=Tryd.underlying4
 a4:=Tryd.isAgg4
 z4:=Tryd.sizeOf4
 v4:=Tryd.zeroValue4
 t5:=Tryd.underlying5
 a5:=Tryd.isAgg5
 z5:=Tryd.sizeOf5
 v5:=Tryd.zeroValue5
 t9:=Tryd.underlying9
 a9:=Tryd.isAgg9
 z9:=Tryd.sizeOf9
 v9:=Tryd.zeroValue9
 t20:=Tryd.underlying20
 a20:=Tryd.isAgg20
 z20:=Tryd.sizeOf20
 v20:=Tryd.zeroValue20
 t37:=Tryd.underlying82
 a37:=Tryd.isAgg82
 z37:=Tryd.sizeOf82
 v37:=Tryd.zeroValue82
 t46:=Tryd.underlying117
 a46:=Tryd.isAgg117
 z46:=Tryd.sizeOf117
 v46:=Tryd.zeroValue117
 t51:=Tryd.underlying138
 a51:=Tryd.isAgg138
 z51:=Tryd.sizeOf138
 v51:=Tryd.zeroValue138
 t53:=Tryd.underlying133
 a53:=Tryd.isAgg133
 z53:=Tryd.sizeOf133
 v53:=Tryd.zeroValue133
 t171:=Tryd.underlying132
 a171:=Tryd.isAgg132
 z171:=Tryd.sizeOf132
 v171:=Tryd.zeroValue132
 t173:=Tryd.underlying136
 a173:=Tryd.isAgg136
 z173:=Tryd.sizeOf136
 v173:=Tryd.zeroValue136
 t212:=Tryd.underlying151
 a212:=Tryd.isAgg151
 z212:=Tryd.sizeOf151
 v212:=Tryd.zeroValue151
 t213:=Tryd.underlying152
 a213:=Tryd.isAgg152
 z213:=Tryd.sizeOf152
 t232:=Tryd.underlying163
 a232:=Tryd.isAgg163
 z232:=Tryd.sizeOf163
 v232:=Tryd.zeroValue163
 t233:=Tryd.underlying164
 a233:=Tryd.isAgg164
 z233:=Tryd.sizeOf164
 v233:=Tryd.zeroValue164
 g17:=by kernel_rfl
 g18:=by kernel_rfl
 g19:=by kernel_rfl
 i0:=by kernel_rfl
 i2:=by kernel_rfl
 i3:=by kernel_rfl
 i4:=by kernel_rfl
 i5:=by kernel_rfl
 i9:=by kernel_rfl
 i20:=by kernel_rfl
 i37:=by kernel_rfl
 i46:=by kernel_rfl
 i51:=by kernel_rfl
 i53:=by kernel_rfl
 i171:=by kernel_rfl
 i173:=by kernel_rfl
 i212:=by kernel_rfl
 i232:=by kernel_rfl
 i233:=by kernel_rfl
 m17:=by kernel_rfl
 m18:=by kernel_rfl
 m19:=by kernel_rfl }
def Tryd.laysM146_ren:Go.Shelf.Ren:=⟨fun|146=>52|221=>72|268=>89|138=>90|143=>91|195=>106|197=>107|218=>108|219=>85|260=>124|217=>75|225=>99|224=>100|267=>101|266=>94|314=>120|n=>n,fun|9=>9|31=>68|3=>3|4=>4|0=>0|105=>121|21=>21|5=>5|46=>117|119=>154|139=>157|138=>156|146=>139|51=>138|n=>n,fun|1=>0|3=>4|4=>5|n=>n⟩
theorem Tryd.laysM146:Go.Proofs.LaysM.n146 Tryd.prog Tryd.laysM146_ren:={
 mixed:=by kernel_rfl
 f138:=Tryd.func90.trans (congrArg some (by kernel_rfl))
 f143:=Tryd.func91.trans (congrArg some (by kernel_rfl))
 f146:=Tryd.func52.trans (congrArg some (by kernel_rfl))
 f195:=Tryd.func106.trans (congrArg some (by kernel_rfl))
 f197:=Tryd.func107.trans (congrArg some (by kernel_rfl))
 f217:=Tryd.func75.trans (congrArg some (by kernel_rfl))
 f218:=Tryd.func108.trans (congrArg some (by kernel_rfl))
 f219:=Tryd.func85.trans (congrArg some (by kernel_rfl))
 f221:=Tryd.func72.trans (congrArg some (by kernel_rfl))
 f224:=Tryd.func100.trans (congrArg some (by kernel_rfl))
 f225:=Tryd.func99.trans (congrArg some (by kernel_rfl))
 f260:=Tryd.func124.trans (congrArg some (by kernel_rfl))
 f266:=Tryd.func94.trans (congrArg some (by kernel_rfl))
 f267:=Tryd.func101.trans (congrArg some (by kernel_rfl))
 f268:=Tryd.func89.trans (congrArg some (by kernel_rfl))
 f314:=Tryd.func120.trans (congrArg some (by kernel_rfl))
 t0:=Tryd.underlying0
 a0:=Tryd.isAgg0
 z0:=Tryd.sizeOf0
 v0:=Tryd.zeroValue0
 t3:=Tryd.underlying3
 a3:=Tryd.isAgg3
 z3:=Tryd.sizeOf3
 v3:=Tryd.zeroValue3
 t4:=Tryd.underlying4
 a4:=Tryd.isAgg4
 z4:=Tryd.sizeOf4
 v4:=Tryd.zeroValue4
 t5:=Tryd.underlying5
 a5:=Tryd.isAgg5
 z5:=Tryd.sizeOf5
 v5:=Tryd.zeroValue5
 t9:=Tryd.underlying9
 a9:=Tryd.isAgg9
 z9:=Tryd.sizeOf9
 v9:=Tryd.zeroValue9
 t21:=Tryd.underlying21
 a21:=Tryd.isAgg21
 z21:=Tryd.sizeOf21
 v21:=Tryd.zeroValue21
 t31:=Tryd.underlying68
 a31:=Tryd.isAgg68
 z31:=Tryd.sizeOf68
 v31:=Tryd.zeroValue68
 t46:=Tryd.underlying117
 a46:=Tryd.isAgg117
 z46:=Tryd.sizeOf117
 v46:=Tryd.zeroValue117
 t51:=Tryd.underlying138
 a51:=Tryd.isAgg138
 z51:=Tryd.sizeOf138
 v51:=Tryd.zeroValue138
 t105:=Tryd.underlying121
 a105:=Tryd.isAgg121
 z105:=Tryd.sizeOf121
 v105:=Tryd.zeroValue121
 t119:=Tryd.underlying154
 a119:=Tryd.isAgg154
 z119:=Tryd.sizeOf154
 t138:=Tryd.underlying156
 a138:=Tryd.isAgg156
 z138:=Tryd.sizeOf156
 v138:=Tryd.zeroValue156
 t139:=Tryd.underlying157
 a139:=Tryd.isAgg157
 z139:=Tryd.sizeOf157
 v139:=Tryd.zeroValue157
 t146:=Tryd.underlying139
 a146:=Tryd.isAgg139
 z146:=Tryd.sizeOf139
 v146:=Tryd.zeroValue139
 g1:=by kernel_rfl
 g3:=by kernel_rfl
 g4:=by kernel_rfl
 i0:=by kernel_rfl
 i3:=by kernel_rfl
 i4:=by kernel_rfl
 i5:=by kernel_rfl
 i9:=by kernel_rfl
 i21:=by kernel_rfl
 i31:=by kernel_rfl
 i46:=by kernel_rfl
 i51:=by kernel_rfl
 i105:=by kernel_rfl
 i138:=by kernel_rfl
 i139:=by kernel_rfl
 i146:=by kernel_rfl
 m1:=by kernel_rfl
 s1_3:=fun w h=>Go.Proofs.cell_of_shapedOpen_int (zero:=#[.int .i64 0]) (t:=3) h (of_decide_eq_true (by kernel_rfl)) (by kernel_rfl) rfl (by kernel_rfl) (by kernel_rfl) Tryd.underlying3
 m3:=by kernel_rfl
 m4:=by kernel_rfl }
theorem stringsSplit (s : ByteArray) (c : UInt8) (hs : s.size < 4294967281) : FnT Tryd.prog 52 [.one (.v (.string s)), .one (.v (.string (bs [c])))] (.a (.one (.sl 1 ((splitL c s.data.toList).map cStr)))) := by
  refine ⟨⟨_, Tryd.func52, by kernel_rfl, by kernel_rfl⟩, fun w vs F hG hv => ?_⟩
  obtain ⟨v1, vr, G1, G2, rfl, g1, ⟨v2, vr2, G3, G4, rfl, g2, ⟨rfl, rfl⟩, rfl⟩, rfl⟩ := hv
  simp only [V0r, C] at g1 g2
  obtain ⟨rfl, rfl, _⟩ := g1
  obtain ⟨rfl, rfl, _⟩ := g2
  have hgl : Tryd.laysM146_ren.g 1 < Tryd.prog.low := Nat.lt_trans (of_decide_eq_true (by kernel_rfl)) low_lt
  obtain ⟨m, hm⟩ : ∃ m, w.cell? ⟨Tryd.laysM146_ren.g 1, 0, none⟩ = some (.int .i64 m) := by
    obtain ⟨w0, ⟨h2, _⟩, h3⟩ := hG.ex
    obtain ⟨m, hm⟩ := Tryd.laysM146.s1_3 w0 h2
    exact ⟨m, (World.cell?_of_block (a := ⟨Tryd.laysM146_ren.g 1, 0, none⟩) (h3 _ hgl)).trans hm⟩
  have hcon := Any.strings_Split { Tryd.laysM146 with } Tryd.laysM146.i9 s (bs [c]) m w hs hm (by rw [bs_size]; simp)
  change Calls Tryd.prog 52 _ _ _ at hcon
  have hcnt : Lib.countB s (bs [c]) = s.data.toList.count c := by
    have e : Lib.countB s (bs [c]) = Lib.count s.data.toList (bs [c]).data.toList := rfl
    rw [e, bs_list, Lib.count_one]
  rw [hcnt, split_eq c _ s rfl] at hcon
  have hlen := splitL_len c s.data.toList
  have hle : s.data.toList.count c ≤ s.size := by
    have := List.count_le_length (a := c) (l := s.data.toList)
    rw [Array.length_toList] at this; exact this
  refine hcon.mono ?_
  rintro e w' ⟨rfl, rfl⟩
  have hb : (w.alloc (.cells (((splitL c s.data.toList).map bs).map Value.string).toArray (Tryd.laysM146_ren.t 9))).heap[w.heap.size]? = some (.cells (((splitL c s.data.toList).map bs).map Value.string).toArray (Tryd.laysM146_ren.t 9)) := by
    show (w.heap.push _)[w.heap.size]? = _
    rw [Array.getElem?_push, if_pos rfl]
  have key : ∀ (xs pre : List (List UInt8)) (all : List Value) (W : World) (e : TypeId), W.heap[w.heap.size]? = some (.cells all.toArray e) → all = (pre ++ xs).map (fun x => Value.string (bs x)) → Rws true W w.heap.size 1 pre.length (xs.map cStr) [] := by
    intro xs
    induction xs with
    | nil => intro pre all W e h1 h2; simp only [List.map_nil, Rws]
    | cons x xs ih =>
      intro pre all W e h1 h2
      have := ih (pre ++ [x]) all W e h1 (by rw [h2]; simp)
      rw [List.length_append, List.length_singleton] at this
      rw [List.map_cons]
      unfold Rws
      refine ⟨[], [], rfl, ?_, this, rfl⟩
      unfold cStr Ms
      refine ⟨_, [], [], ?_, by unfold C; exact ⟨rfl, rfl, rfl⟩, by unfold Ms; rfl, rfl⟩
      simp [World.cell?, h1, h2]
  refine ⟨_, [w.heap.size], rfl, ?_, by simp, fun b hb' => ?_, Below.alloc (Below.refl _ _) (Nat.le_refl _) _⟩
  · show C true _ (.sl 1 _) _ _
    unfold C
    refine ⟨_, _, _, rfl, by rw [List.length_map, hlen], Nat.le_refl _, by (show _ ≤ maxLen); (unfold maxLen); omega, .inr ⟨_, 0, [], rfl, rfl, ?_, fun _ => ⟨rfl, _, _, hb, by simp [hlen]⟩, ?_⟩⟩
    · show w.heap.size < (w.heap.push _).size
      simp
    · exact key _ [] _ _ _ hb (by simp)
  · rw [List.mem_singleton] at hb'
    subst hb'
    refine ⟨Nat.le_refl _, ?_⟩
    exact ⟨_, _, hb⟩
def Tryd.laysM145_ren:Go.Shelf.Ren:=⟨fun|145=>42|220=>66|219=>85|217=>75|225=>99|224=>100|267=>101|266=>94|314=>120|n=>n,fun|9=>9|4=>4|59=>62|3=>3|5=>5|46=>117|146=>139|51=>138|n=>n,fun|1=>0|n=>n⟩
theorem Tryd.laysM145:Go.Proofs.LaysM.n145 Tryd.prog Tryd.laysM145_ren:={
 mixed:=by kernel_rfl
 f145:=Tryd.func42.trans (congrArg some (by kernel_rfl))
 f217:=Tryd.func75.trans (congrArg some (by kernel_rfl))
 f219:=Tryd.func85.trans (congrArg some (by kernel_rfl))
 f220:=Tryd.func66.trans (congrArg some (by kernel_rfl))
 f224:=Tryd.func100.trans (congrArg some (by kernel_rfl))
 f225:=Tryd.func99.trans (congrArg some (by kernel_rfl))
 f266:=Tryd.func94.trans (congrArg some (by kernel_rfl))
 f267:=Tryd.func101.trans (congrArg some (by kernel_rfl))
 f314:=Tryd.func120.trans (congrArg some (by kernel_rfl))
 t3:=Tryd.underlying3
 a3:=Tryd.isAgg3
 z3:=Tryd.sizeOf3
 v3:=Tryd.zeroValue3
 t4:=Tryd.underlying4
 a4:=Tryd.isAgg4
 z4:=Tryd.sizeOf4
 v4:=Tryd.zeroValue4
 t5:=Tryd.underlying5
 a5:=Tryd.isAgg5
 z5:=Tryd.sizeOf5
 v5:=Tryd.zeroValue5
 t9:=Tryd.underlying9
 a9:=Tryd.isAgg9
 z9:=Tryd.sizeOf9
 v9:=Tryd.zeroValue9
 t46:=Tryd.underlying117
 a46:=Tryd.isAgg117
 z46:=Tryd.sizeOf117
 v46:=Tryd.zeroValue117
 t51:=Tryd.underlying138
 a51:=Tryd.isAgg138
 z51:=Tryd.sizeOf138
 v51:=Tryd.zeroValue138
 t59:=Tryd.underlying62
 a59:=Tryd.isAgg62
 z59:=Tryd.sizeOf62
 v59:=Tryd.zeroValue62
 t146:=Tryd.underlying139
 a146:=Tryd.isAgg139
 z146:=Tryd.sizeOf139
 v146:=Tryd.zeroValue139
 g1:=by kernel_rfl
 i3:=by kernel_rfl
 i4:=by kernel_rfl
 i5:=by kernel_rfl
 i9:=by kernel_rfl
 i46:=by kernel_rfl
 i51:=by kernel_rfl
 i59:=by kernel_rfl
 i146:=by kernel_rfl
 m1:=by kernel_rfl
 s1_3:=fun w h=>Go.Proofs.cell_of_shapedOpen_int (zero:=#[.int .i64 0]) (t:=3) h (of_decide_eq_true (by kernel_rfl)) (by kernel_rfl) rfl (by kernel_rfl) (by kernel_rfl) Tryd.underlying3 }
theorem stringsCut (s : ByteArray) (sep : List UInt8) (hs : s.size < 4294967281) : FnT Tryd.prog 42 [.one (.v (.string s)), .one (.v (.string (bs sep)))] (.tup [.one (.v (.string (bs (Lib.cut s.data.toList sep).1))), .one (.v (.string (bs (Lib.cut s.data.toList sep).2.1))), .one (.v (.bool (Lib.cut s.data.toList sep).2.2))]) := by
  refine ⟨⟨_, Tryd.func42, by kernel_rfl, by kernel_rfl⟩, fun w vs F hG hv => ?_⟩
  obtain ⟨v1, vr, G1, G2, rfl, g1, ⟨v2, vr2, G3, G4, rfl, g2, ⟨rfl, rfl⟩, rfl⟩, rfl⟩ := hv
  simp only [V0r, C] at g1 g2
  obtain ⟨rfl, rfl, _⟩ := g1
  obtain ⟨rfl, rfl, _⟩ := g2
  have hgl : Tryd.laysM145_ren.g 1 < Tryd.prog.low := Nat.lt_trans (of_decide_eq_true (by kernel_rfl)) low_lt
  obtain ⟨m, hm⟩ : ∃ m, w.cell? ⟨Tryd.laysM145_ren.g 1, 0, none⟩ = some (.int .i64 m) := by
    obtain ⟨w0, ⟨h2, _⟩, h3⟩ := hG.ex
    obtain ⟨m, hm⟩ := Tryd.laysM145.s1_3 w0 h2
    exact ⟨m, (World.cell?_of_block (a := ⟨Tryd.laysM145_ren.g 1, 0, none⟩) (h3 _ hgl)).trans hm⟩
  have hcon := Any.strings_Cut { Tryd.laysM145 with } s (bs sep) m w hs hm
  change Calls Tryd.prog 42 _ _ _ at hcon
  rw [bs_list] at hcon
  refine hcon.mono ?_
  rintro e w' ⟨rfl, n, rfl⟩
  refine ⟨_, [], rfl, ?_, List.nodup_nil, by simp, ⟨rfl, rfl, rfl, Nat.le_refl _, fun _ _ => rfl⟩⟩
  exact ⟨_, rfl, V0s_vs [.string (bs (Lib.cut s.data.toList sep).1), .string (bs (Lib.cut s.data.toList sep).2.1), .bool (Lib.cut s.data.toList sep).2.2] rfl⟩
def Tryd.lays99_ren:Go.Shelf.Ren:=⟨fun|99=>43|206=>67|n=>n,fun|9=>9|4=>4|3=>3|n=>n,fun|n=>n⟩
theorem Tryd.lays99:Go.Proofs.Lays.n99 Tryd.prog Tryd.lays99_ren:={
 mixed:=by kernel_rfl
 f99:=Tryd.func43.trans (congrArg some (by kernel_rfl))
 f206:=Tryd.func67.trans (congrArg some (by kernel_rfl))
 t3:=Tryd.underlying3
 a3:=Tryd.isAgg3
 z3:=Tryd.sizeOf3
 v3:=Tryd.zeroValue3
 t4:=Tryd.underlying4
 a4:=Tryd.isAgg4
 z4:=Tryd.sizeOf4
 v4:=Tryd.zeroValue4
 t9:=Tryd.underlying9
 a9:=Tryd.isAgg9
 z9:=Tryd.sizeOf9
 v9:=Tryd.zeroValue9 }
theorem stringsHasPrefix (s : ByteArray) (p : List UInt8) : FnT Tryd.prog 43 [.one (.v (.string s)), .one (.v (.string (bs p)))] (.a (.one (.v (.bool (Lib.hasPrefix s.data.toList p))))) := by
  refine ⟨⟨_, Tryd.func43, by kernel_rfl, by kernel_rfl⟩, fun w vs F hG hv => ?_⟩
  obtain ⟨v1, vr, G1, G2, rfl, g1, ⟨v2, vr2, G3, G4, rfl, g2, ⟨rfl, rfl⟩, rfl⟩, rfl⟩ := hv
  simp only [V0r, C] at g1 g2
  obtain ⟨rfl, rfl, _⟩ := g1
  obtain ⟨rfl, rfl, _⟩ := g2
  have hcon := Any.strings_HasPrefix Tryd.lays99 s (bs p) w
  change Calls Tryd.prog 43 _ _ _ at hcon
  rw [bs_list] at hcon
  refine hcon.mono ?_
  rintro e w' ⟨rfl, rfl⟩
  refine ⟨_, [], rfl, ?_, List.nodup_nil, by simp, Ext.refl _⟩
  simp [Vr, V0r, C]
  rfl
end Go.Proofs.YtibjbmjgmfiecaaDoor
