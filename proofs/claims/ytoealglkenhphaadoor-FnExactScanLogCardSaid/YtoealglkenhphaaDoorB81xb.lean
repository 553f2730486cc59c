/- The library's strings and numbers, for the walks: what leans on the library's own variables. -/
import Derived.Test.YtoealglkenhphaaDoorB80xb
import Derived.Test.YtoealglkenhphaaDoorB74xb
import Derived.Shelf.Strings.SplitShaped
import Derived.Shelf.Strings.Shaped
import Derived.Shelf.Strings.Prefix
import Derived.Shelf.Small.Strs
set_option linter.unusedVariables false
set_option linter.unusedSimpArgs false
set_option maxHeartbeats 1000000
set_option maxRecDepth 100000
namespace Go.Q
open Go.RowKit
theorem V0s_vs {o : Bool} {w : World} : ∀ (xs : List Value), xs.all Value.oneCell' = true → V0s o w (xs.map fun x => .one (.v x)) xs []
  | [], _ => ⟨rfl, rfl⟩
  | x :: xs, h => by
    rw [List.all_cons, Bool.and_eq_true] at h
    exact ⟨x, xs, [], [], rfl, by unfold V0r C; exact ⟨rfl, rfl, h.1⟩, V0s_vs xs h.2, rfl⟩
end Go.Q
namespace Go.Proofs.YtoealglkenhphaaDoor
open Go.RowKit Go.Q Go.D Go.Shelf
def Tryd.laysM171_ren:Go.Shelf.Ren:=⟨fun|171=>37|243=>52|246=>68|283=>82|284=>83|285=>84|286=>85|129=>92|317=>91|318=>93|319=>94|320=>95|337=>98|338=>99|n=>n,fun|3=>3|9=>9|2=>2|4=>4|171=>99|0=>0|53=>92|37=>65|5=>5|173=>102|212=>117|51=>109|20=>20|213=>118|46=>91|232=>124|233=>125|n=>n,fun|17=>5|18=>6|19=>7|n=>n⟩
theorem Tryd.laysM171:Go.Proofs.LaysM.n171 Tryd.prog Tryd.laysM171_ren:={
 mixed:=by kernel_rfl
 f129:=Tryd.func92.trans (congrArg some (by kernel_rfl))
 f171:=Tryd.func37.trans (congrArg some (by kernel_rfl))
 f243:=Tryd.func52.trans (congrArg some (by kernel_rfl))
 f246:=Tryd.func68.trans (congrArg some (by kernel_rfl))
 f283:=Tryd.func82.trans (congrArg some (by kernel_rfl))
 f284:=Tryd.func83.trans (congrArg some (by kernel_rfl))
 f285:=Tryd.func84.trans (congrArg some (by kernel_rfl))
 f286:=Tryd.func85.trans (congrArg some (by kernel_rfl))
 f317:=Tryd.func91.trans (congrArg some (by kernel_rfl))
 f318:=Tryd.func93.trans (congrArg some (by kernel_rfl))
 f319:=Tryd.func94.trans (congrArg some (by kernel_rfl))
 f320:=Tryd.func95.trans (congrArg some (by kernel_rfl))
 f337:=Tryd.func98.trans (congrArg some (by kernel_rfl))
 f338:=Tryd.func99.trans (congrArg some (by kernel_rfl))
 t0:=Tryd.underlying0
 a0:=Tryd.isAgg0
 z0:=Tryd.sizeOf0
 v0:=Tryd.zeroValue0
 t2:=Tryd.underlying2
 a2:=Tryd.isAgg2
 z2:=Tryd.sizeOf2
 v2:=Tryd.zeroValue2
 t3:=Tryd.underlying3
 a3:=Tryd.isAgg3
 z3:=Tryd.sizeOf3
 v3:=Tryd.zeroValue3
 t4:=Tryd.underlying4
 a4:=Tryd.isAgg4
 z4:=Tryd.sizeOf4
 v4:=Tryd.zeroValue4
 t5:=Tryd.underlying5
 a5:=Tryd.isAgg5
 z5:=Tryd.sizeOf5
 v5:=Tryd.zeroValue5
 t9:=Tryd.underlying9
 a9:=Tryd.isAgg9
 z9:=Tryd.sizeOf9
 v9:=Tryd.zeroValue9
 t20:=Tryd.underlying20
 a20:=Tryd.isAgg20
 z20:=Tryd.sizeOf20
 v20:=Tryd.zeroValue20
 t37:=Tryd.underlying65
 a37:=Tryd.isAgg65
 z37:=Tryd.sizeOf65
 v37:=Tryd.zeroValue65
 t46:=Tryd.underlying91
 a46:=Tryd.isAgg91
 z46:=Tryd.sizeOf91
 v46:=Tryd.zeroValue91
 t51:=Tryd.underlying109
 a51:=Tryd.isAgg109
 z51:=Tryd.sizeOf109
 v51:=Tryd.zeroValue109
 t53:=Tryd.underlying92
 a53:=Tryd.isAgg92
 z53:=Tryd.sizeOf92
 v53:=Tryd.zeroValue92
 t171:=Tryd.underlying99
 a171:=Tryd.isAgg99
 z171:=Tryd.sizeOf99
 v171:=Tryd.zeroValue99
 t173:=Tryd.underlying102
 a173:=Tryd.isAgg102
 z173:=Tryd.sizeOf102
 v173:=Tryd.zeroValue102
 t212:=Tryd.underlying117
 a212:=Tryd.isAgg117
 z212:=Tryd.sizeOf117
 v212:=Tryd.zeroValue117
 t213:=Tryd.underlying118
 a213:=Tryd.isAgg118
 z213:=Tryd.sizeOf118
 t232:=Tryd.underlying124
 a232:=Tryd.isAgg124
 z232:=Tryd.sizeOf124
 v232:=Tryd.zeroValue124
 t233:=Tryd.underlying125
 a233:=Tryd.isAgg125
 z233:=Tryd.sizeOf125
 v233:=Tryd.zeroValue125
 g17:=by kernel_rfl
 g18:=by kernel_rfl
 g19:=by kernel_rfl
 i0:=by kernel_rfl
 i2:=by kernel_rfl
 i3:=by kernel_rfl
 i4:=by kernel_rfl
 i5:=by kernel_rfl
 i9:=by kernel_rfl
 i20:=by kernel_rfl
 i37:=by kernel_rfl
 i46:=by kernel_rfl
 i51:=by kernel_rfl
 i53:=by kernel_rfl
 i171:=by kernel_rfl
 i173:=by kernel_rfl
 i212:=by kernel_rfl
 i232:=by kernel_rfl
 i233:=by kernel_rfl
 m17:=by kernel_rfl
 m18:=by kernel_rfl
 m19:=by kernel_rfl }
theorem strconvItoaA (n : Int) (h0 : -9223372036854775808 ≤ n) (h1 : n ≤ 9223372036854775807) : FnT Tryd.prog 37 [.one (.v (.int .i64 n))] (.a (.one (.v (.string (bs (itoS n)))))) := by
  refine ⟨⟨_, Tryd.func37, by kernel_rfl, by kernel_rfl⟩, fun w vs F hG hv => ?_⟩
  obtain ⟨v1, vr, G1, G2, rfl, g1, ⟨rfl, rfl⟩, rfl⟩ := hv
  simp only [V0r, C] at g1
  obtain ⟨rfl, rfl, _⟩ := g1
  have htab : Lib.TabIs Tryd.prog w "internal/strconv.uint64pow10" .u64 Lib.pow10Tab := by
    obtain ⟨w0, ⟨_, h2, _⟩, h3⟩ := hG.ex
    have hg : Tryd.prog.globalNamed "internal/strconv.uint64pow10" = some ((Tryd.prog.globalNamed "internal/strconv.uint64pow10").getD 0) := by kernel_rfl
    have hl : (Tryd.prog.globalNamed "internal/strconv.uint64pow10").getD 0 < Tryd.prog.low := Nat.lt_trans (of_decide_eq_true (by kernel_rfl)) low_lt
    unfold Lib.TabIs World.var? at h2 ⊢
    rw [hg] at h2 ⊢
    simp only [Option.bind_some] at h2 ⊢
    rw [h3 _ hl]; exact h2
  have hcon := Any.strconv_Itoa Tryd.laysM171 n h0 h1 w htab
  change Calls Tryd.prog 37 _ _ _ at hcon
  refine hcon.mono ?_
  rintro e w' ⟨rfl, k, os, rfl⟩
  refine ⟨_, [], rfl, ?_, List.nodup_nil, by simp, ⟨rfl, rfl, rfl, (by show w.heap.size ≤ (w.heap ++ os).size; rw [Array.size_append]; omega), fun j hj => (by show (w.heap ++ os)[j]? = w.heap[j]?; exact Array.getElem?_append_left hj)⟩⟩
  simp [Vr, V0r, C]
  exact ⟨rfl, rfl⟩
def Tryd.laysM146_ren:Go.Shelf.Ren:=⟨fun|146=>22|221=>35|268=>47|138=>48|143=>49|195=>59|197=>60|218=>61|219=>62|260=>75|217=>44|225=>76|224=>77|267=>78|266=>57|314=>88|n=>n,fun|9=>9|31=>38|3=>3|4=>4|0=>0|105=>74|21=>21|5=>5|46=>91|119=>105|139=>108|138=>107|146=>110|51=>109|n=>n,fun|1=>0|3=>3|4=>4|n=>n⟩
theorem Tryd.laysM146:Go.Proofs.LaysM.n146 Tryd.prog Tryd.laysM146_ren:={
 mixed:=by kernel_rfl
 f138:=Tryd.func48.trans (congrArg some (by kernel_rfl))
 f143:=Tryd.func49.trans (congrArg some (by kernel_rfl))
 f146:=Tryd.func22.trans (congrArg some (by kernel_rfl))
 f195:=Tryd.func59.trans (congrArg some (by kernel_rfl))
 f197:=Tryd.func60.trans (congrArg some (by kernel_rfl))
 f217:=Tryd.func44.trans (congrArg some (by kernel_rfl))
 f218:=Tryd.func61.trans (congrArg some (by kernel_rfl))
 f219:=Tryd.func62.trans (congrArg some (by kernel_rfl))
 f221:=Tryd.func35.trans (congrArg some (by kernel_rfl))
 f224:=Tryd.func77.trans (congrArg some (by kernel_rfl))
 f225:=Tryd.func76.trans (congrArg some (by kernel_rfl))
 f260:=Tryd.func75.trans (congrArg some (by kernel_rfl))
 f266:=Tryd.func57.trans (congrArg some (by kernel_rfl))
 f267:=Tryd.func78.trans (congrArg some (by kernel_rfl))
 f268:=Tryd.func47.trans (congrArg some (by kernel_rfl))
 f314:=Tryd.func88.trans (congrArg some (by kernel_rfl))
 t0:=Tryd.underlying0
 a0:=Tryd.isAgg0
 z0:=Tryd.sizeOf0
 v0:=Tryd.zeroValue0
 t3:=Tryd.underlying3
 a3:=Tryd.isAgg3
 z3:=Tryd.sizeOf3
 v3:=Tryd.zeroValue3
 t4:=Tryd.underlying4
 a4:=Tryd.isAgg4
 z4:=Tryd.sizeOf4
 v4:=Tryd.zeroValue4
 t5:=Tryd.underlying5
 a5:=Tryd.isAgg5
 z5:=Tryd.sizeOf5
 v5:=Tryd.zeroValue5
 t9:=Tryd.underlying9
 a9:=Tryd.isAgg9
 z9:=Tryd.sizeOf9
 v9:=Tryd.zeroValue9
 t21:=Tryd.underlying21
 a21:=Tryd.isAgg21
 z21:=Tryd.sizeOf21
 v21:=Tryd.zeroValue21
 t31:=Tryd.underlying38
 a31:=Tryd.isAgg38
 z31:=Tryd.sizeOf38
 v31:=Tryd.zeroValue38
 t46:=Tryd.underlying91
 a46:=Tryd.isAgg91
 z46:=Tryd.sizeOf91
 v46:=Tryd.zeroValue91
 t51:=Tryd.underlying109
 a51:=Tryd.isAgg109
 z51:=Tryd.sizeOf109
 v51:=Tryd.zeroValue109
 t105:=Tryd.underlying74
 a105:=Tryd.isAgg74
 z105:=Tryd.sizeOf74
 v105:=Tryd.zeroValue74
 t119:=Tryd.underlying105
 a119:=Tryd.isAgg105
 z119:=Tryd.sizeOf105
 t138:=Tryd.underlying107
 a138:=Tryd.isAgg107
 z138:=Tryd.sizeOf107
 v138:=Tryd.zeroValue107
 t139:=Tryd.underlying108
 a139:=Tryd.isAgg108
 z139:=Tryd.sizeOf108
 v139:=Tryd.zeroValue108
 t146:=Tryd.underlying110
 a146:=Tryd.isAgg110
 z146:=Tryd.sizeOf110
 v146:=Tryd.zeroValue110
 g1:=by kernel_rfl
 g3:=by kernel_rfl
 g4:=by kernel_rfl
 i0:=by kernel_rfl
 i3:=by kernel_rfl
 i4:=by kernel_rfl
 i5:=by kernel_rfl
 i9:=by kernel_rfl
 i21:=by kernel_rfl
 i31:=by kernel_rfl
 i46:=by kernel_rfl
 i51:=by kernel_rfl
 i105:=by kernel_rfl
 i138:=by kernel_rfl
 i139:=by kernel_rfl
 i146:=by kernel_rfl
 m1:=by kernel_rfl
 s1_3:=fun w h=>Go.Proofs.cell_of_shapedOpen_int (zero:=#[.int .i64 0]) (t:=3) h (of_decide_eq_true (by kernel_rfl)) (by kernel_rfl) rfl (by kernel_rfl) (by kernel_rfl) Tryd.underlying3
 m3:=by kernel_rfl
 m4:=by kernel_rfl }
theorem stringsSplit (s : ByteArray) (c : UInt8) (hs : s.size < 4294967281) : FnT Tryd.prog 22 [.one (.v (.string s)), .one (.v (.string (bs [c])))] (.a (.one (.sl 1 ((splitL c s.data.toList).map cStr)))) := by
  refine ⟨⟨_, Tryd.func22, by kernel_rfl, by kernel_rfl⟩, fun w vs F hG hv => ?_⟩
  obtain ⟨v1, vr, G1, G2, rfl, g1, ⟨v2, vr2, G3, G4, rfl, g2, ⟨rfl, rfl⟩, rfl⟩, rfl⟩ := hv
  simp only [V0r, C] at g1 g2
  obtain ⟨rfl, rfl, _⟩ := g1
  obtain ⟨rfl, rfl, _⟩ := g2
  have hgl : Tryd.laysM146_ren.g 1 < Tryd.prog.low := Nat.lt_trans (of_decide_eq_true (by kernel_rfl)) low_lt
  obtain ⟨m, hm⟩ : ∃ m, w.cell? ⟨Tryd.laysM146_ren.g 1, 0, none⟩ = some (.int .i64 m) := by
    obtain ⟨w0, ⟨h2, _⟩, h3⟩ := hG.ex
    obtain ⟨m, hm⟩ := Tryd.laysM146.s1_3 w0 h2
    exact ⟨m, (World.cell?_of_block (a := ⟨Tryd.laysM146_ren.g 1, 0, none⟩) (h3 _ hgl)).trans hm⟩
  have hcon := Any.strings_Split { Tryd.laysM146 with } Tryd.laysM146.i9 s (bs [c]) m w hs hm (by rw [bs_size]; simp)
  change Calls Tryd.prog 22 _ _ _ at hcon
  have hcnt : Lib.countB s (bs [c]) = s.data.toList.count c := by
    have e : Lib.countB s (bs [c]) = Lib.count s.data.toList (bs [c]).data.toList := rfl
    rw [e, bs_list, Lib.count_one]
  rw [hcnt, split_eq c _ s rfl] at hcon
  have hlen := splitL_len c s.data.toList
  have hle : s.data.toList.count c ≤ s.size := by
    have := List.count_le_length (a := c) (l := s.data.toList)
    rw [Array.length_toList] at this; exact this
  refine hcon.mono ?_
  rintro e w' ⟨rfl, rfl⟩
  have hb : (w.alloc (.cells (((splitL c s.data.toList).map bs).map Value.string).toArray (Tryd.laysM146_ren.t 9))).heap[w.heap.size]? = some (.cells (((splitL c s.data.toList).map bs).map Value.string).toArray (Tryd.laysM146_ren.t 9)) := by
    show (w.heap.push _)[w.heap.size]? = _
    rw [Array.getElem?_push, if_pos rfl]
  have key : ∀ (xs pre : List (List UInt8)) (all : List Value) (W : World) (e : TypeId), W.heap[w.heap.size]? = some (.cells all.toArray e) → all = (pre ++ xs).map (fun x => Value.string (bs x)) → Rws true W w.heap.size 1 pre.length (xs.map cStr) [] := by
    intro xs
    induction xs with
    | nil => intro pre all W e h1 h2; simp only [List.map_nil, Rws]
    | cons x xs ih =>
      intro pre all W e h1 h2
      have := ih (pre ++ [x]) all W e h1 (by rw [h2]; simp)
      rw [List.length_append, List.length_singleton] at this
      rw [List.map_cons]
      unfold Rws
      refine ⟨[], [], rfl, ?_, this, rfl⟩
      unfold cStr Ms
      refine ⟨_, [], [], ?_, by unfold C; exact ⟨rfl, rfl, rfl⟩, by unfold Ms; rfl, rfl⟩
      simp [World.cell?, h1, h2]
  refine ⟨_, [w.heap.size], rfl, ?_, by simp, fun b hb' => ?_, Below.alloc (Below.refl _ _) (Nat.le_refl _) _⟩
  · show C true _ (.sl 1 _) _ _
    unfold C
    refine ⟨_, _, _, rfl, by rw [List.length_map, hlen], Nat.le_refl _, by (show _ ≤ maxLen); (unfold maxLen); omega, .inr ⟨_, 0, [], rfl, rfl, ?_, fun _ => ⟨rfl, _, _, hb, by simp [hlen]⟩, ?_⟩⟩
    · show w.heap.size < (w.heap.push _).size
      simp
    · exact key _ [] _ _ _ hb (by simp)
  · rw [List.mem_singleton] at hb'
    subst hb'
    refine ⟨Nat.le_refl _, ?_⟩
    exact ⟨_, _, hb⟩
def Tryd.laysM145_ren:Go.Shelf.Ren:=⟨fun|145=>53|220=>69|219=>62|217=>44|225=>76|224=>77|267=>78|266=>57|314=>88|n=>n,fun|9=>9|4=>4|59=>70|3=>3|5=>5|46=>91|146=>110|51=>109|n=>n,fun|1=>0|n=>n⟩
theorem Tryd.laysM145:Go.Proofs.LaysM.n145 Tryd.prog Tryd.laysM145_ren:={
 mixed:=by kernel_rfl
 f145:=Tryd.func53.trans (congrArg some (by kernel_rfl))
 f217:=Tryd.func44.trans (congrArg some (by kernel_rfl))
 f219:=Tryd.func62.trans (congrArg some (by kernel_rfl))
 f220:=Tryd.func69.trans (congrArg some (by kernel_rfl))
 f224:=Tryd.func77.trans (congrArg some (by kernel_rfl))
 f225:=Tryd.func76.trans (congrArg some (by kernel_rfl))
 f266:=Tryd.func57.trans (congrArg some (by kernel_rfl))
 f267:=Tryd.func78.trans (congrArg some (by kernel_rfl))
 f314:=Tryd.func88.trans (congrArg some (by kernel_rfl))
 t3:=Tryd.underlying3
 a3:=Tryd.isAgg3
 z3:=Tryd.sizeOf3
 v3:=Tryd.zeroValue3
 t4:=Tryd.underlying4
 a4:=Tryd.isAgg4
 z4:=Tryd.sizeOf4
 v4:=Tryd.zeroValue4
 t5:=Tryd.underlying5
 a5:=Tryd.isAgg5
 z5:=Tryd.sizeOf5
 v5:=Tryd.zeroValue5
 t9:=Tryd.underlying9
 a9:=Tryd.isAgg9
 z9:=Tryd.sizeOf9
 v9:=Tryd.zeroValue9
 t46:=Tryd.underlying91
 a46:=Tryd.isAgg91
 z46:=Tryd.sizeOf91
 v46:=Tryd.zeroValue91
 t51:=Tryd.underlying109
 a51:=Tryd.isAgg109
 z51:=Tryd.sizeOf109
 v51:=Tryd.zeroValue109
 t59:=Tryd.underlying70
 a59:=Tryd.isAgg70
 z59:=Tryd.sizeOf70
 v59:=Tryd.zeroValue70
 t146:=Tryd.underlying110
 a146:=Tryd.isAgg110
 z146:=Tryd.sizeOf110
 v146:=Tryd.zeroValue110
 g1:=by kernel_rfl
 i3:=by kernel_rfl
 i4:=by kernel_rfl
 i5:=by kernel_rfl
 i9:=by kernel_rfl
 i46:=by kernel_rfl
 i51:=by kernel_rfl
 i59:=by kernel_rfl
 i146:=by kernel_rfl
 m1:=by kernel_rfl
 s1_3:=fun w h=>Go.Proofs.cell_of_shapedOpen_int (zero:=#[.int .i64 0]) (t:=3) h (of_decide_eq_true (by kernel_rfl)) (by kernel_rfl) rfl (by kernel_rfl) (by kernel_rfl) Tryd.underlying3 }
theorem stringsCut (s : ByteArray) (sep : List UInt8) (hs : s.size < 4294967281) : FnT Tryd.prog 53 [.one (.v (.string s)), .one (.v (.string (bs sep)))] (.tup [.one (.v (.string (bs (Lib.cut s.data.toList sep).1))), .one (.v (.string (bs (Lib.cut s.data.toList sep).2.1))), .one (.v (.bool (Lib.cut s.data.toList sep).2.2))]) := by
  refine ⟨⟨_, Tryd.func53, by kernel_rfl, by kernel_rfl⟩, fun w vs F hG hv => ?_⟩
  obtain ⟨v1, vr, G1, G2, rfl, g1, ⟨v2, vr2, G3, G4, rfl, g2, ⟨rfl, rfl⟩, rfl⟩, rfl⟩ := hv
  simp only [V0r, C] at g1 g2
  obtain ⟨rfl, rfl, _⟩ := g1
  obtain ⟨rfl, rfl, _⟩ := g2
  have hgl : Tryd.laysM145_ren.g 1 < Tryd.prog.low := Nat.lt_trans (of_decide_eq_true (by kernel_rfl)) low_lt
  obtain ⟨m, hm⟩ : ∃ m, w.cell? ⟨Tryd.laysM145_ren.g 1, 0, none⟩ = some (.int .i64 m) := by
    obtain ⟨w0, ⟨h2, _⟩, h3⟩ := hG.ex
    obtain ⟨m, hm⟩ := Tryd.laysM145.s1_3 w0 h2
    exact ⟨m, (World.cell?_of_block (a := ⟨Tryd.laysM145_ren.g 1, 0, none⟩) (h3 _ hgl)).trans hm⟩
  have hcon := Any.strings_Cut { Tryd.laysM145 with } s (bs sep) m w hs hm
  change Calls Tryd.prog 53 _ _ _ at hcon
  rw [bs_list] at hcon
  refine hcon.mono ?_
  rintro e w' ⟨rfl, n, rfl⟩
  refine ⟨_, [], rfl, ?_, List.nodup_nil, by simp, ⟨rfl, rfl, rfl, Nat.le_refl _, fun _ _ => rfl⟩⟩
  exact ⟨_, rfl, V0s_vs [.string (bs (Lib.cut s.data.toList sep).1), .string (bs (Lib.cut s.data.toList sep).2.1), .bool (Lib.cut s.data.toList sep).2.2] rfl⟩
def Tryd.lays137_ren:Go.Shelf.Ren:=⟨fun|137=>29|217=>44|266=>57|n=>n,fun|9=>9|5=>5|3=>3|n=>n,fun|n=>n⟩
theorem Tryd.lays137:Go.Proofs.Lays.n137 Tryd.prog Tryd.lays137_ren:={
 mixed:=by kernel_rfl
 f137:=Tryd.func29.trans (congrArg some (by kernel_rfl))
 f217:=Tryd.func44.trans (congrArg some (by kernel_rfl))
 f266:=Tryd.func57.trans (congrArg some (by kernel_rfl))
 t3:=Tryd.underlying3
 a3:=Tryd.isAgg3
 z3:=Tryd.sizeOf3
 v3:=Tryd.zeroValue3
 t5:=Tryd.underlying5
 a5:=Tryd.isAgg5
 z5:=Tryd.sizeOf5
 v5:=Tryd.zeroValue5
 t9:=Tryd.underlying9
 a9:=Tryd.isAgg9
 z9:=Tryd.sizeOf9
 v9:=Tryd.zeroValue9 }
theorem stringsIndexByte (s : ByteArray) (c : UInt8) : FnT Tryd.prog 29 [.one (.v (.string s)), .one (.v (.int .u8 c.toNat))] (.a (.one (.v (.int .i64 (Lib.indexByte s.data.toList c))))) := by
  refine ⟨⟨_, Tryd.func29, by kernel_rfl, by kernel_rfl⟩, fun w vs F hG hv => ?_⟩
  obtain ⟨v1, vr, G1, G2, rfl, g1, ⟨v2, vr2, G3, G4, rfl, g2, ⟨rfl, rfl⟩, rfl⟩, rfl⟩ := hv
  simp only [V0r, C] at g1 g2
  obtain ⟨rfl, rfl, _⟩ := g1
  obtain ⟨rfl, rfl, _⟩ := g2
  have hcon := Any.strings_IndexByte Tryd.lays137 s (c.toNat : Int) w
  rw [show ((c.toNat : Nat) : Int).toNat.toUInt8 = c by simp] at hcon
  change Calls Tryd.prog 29 _ _ _ at hcon
  refine hcon.mono ?_
  rintro e w' ⟨rfl, rfl⟩
  refine ⟨_, [], rfl, ?_, List.nodup_nil, by simp, Ext.refl _⟩
  simp [Vr, V0r, C]
  rfl
end Go.Proofs.YtoealglkenhphaaDoor
