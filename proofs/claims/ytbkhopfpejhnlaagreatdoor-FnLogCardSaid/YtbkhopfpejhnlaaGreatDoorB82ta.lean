import Derived.Test.YtbkhopfpejhnlaaGreatDoorB85ta
import Derived.Test.YtbkhopfpejhnlaaGreatDoorB77ta
import Derived.Shelf.Strings.SplitShaped
import Derived.Shelf.Strings.Shaped
import Derived.Shelf.Strings.Prefix
import Derived.Shelf.Small.Strs
import Derived.Test.YtbkhopfpejhnlaaGreatDoorB102ta
import Derived.Shelf.Strconv.Atoi
import Derived.Shelf.Strconv.AtoiErr
set_option linter.unusedVariables false
set_option linter.unusedSimpArgs false
set_option maxHeartbeats 1000000
set_option maxRecDepth 100000
namespace Go.Q
open Go.RowKit
theorem V0s_vs {o : Bool} {w : World} : ∀ (xs : List Value), xs.all Value.oneCell' = true → V0s o w (xs.map fun x => .one (.v x)) xs []
 | [], _ => ⟨rfl, rfl⟩
 | x :: xs, h => by
  rw [List.all_cons, Bool.and_eq_true] at h
  exact ⟨x, xs, [], [], rfl, by unfold V0r C; exact ⟨rfl, rfl, h.1⟩, V0s_vs xs h.2, rfl⟩
end Go.Q
namespace Go.Proofs.YtbkhopfpejhnlaaGreatDoor
open Go.RowKit Go.Q Go.D Go.Shelf
def Tryz.laysM171_ren:Go.Shelf.Ren:=⟨fun|171=>91|243=>119|246=>140|283=>164|284=>165|285=>166|286=>167|129=>160|317=>177|318=>178|319=>179|320=>180|337=>184|338=>185|n=>n,fun|3=>3|9=>9|2=>2|4=>4|171=>185|0=>0|53=>179|37=>22|5=>5|173=>187|212=>202|51=>177|20=>20|213=>203|46=>150|232=>216|233=>217|n=>n,fun|17=>3|18=>6|19=>7|n=>n⟩
theorem Tryz.laysM171:Go.Proofs.LaysM.n171 Tryz.prog Tryz.laysM171_ren:={
 mixed:=by kernel_rfl
 f129:=Tryz.func160.trans (congrArg some (by kernel_rfl))
 f171:=Tryz.func91.trans (congrArg some (by kernel_rfl))
 f243:=Tryz.func119.trans (congrArg some (by kernel_rfl))
 f246:=Tryz.func140.trans (congrArg some (by kernel_rfl))
 f283:=Tryz.func164.trans (congrArg some (by kernel_rfl))
 f284:=Tryz.func165.trans (congrArg some (by kernel_rfl))
 f285:=Tryz.func166.trans (congrArg some (by kernel_rfl))
 f286:=Tryz.func167.trans (congrArg some (by kernel_rfl))
 f317:=Tryz.func177.trans (congrArg some (by kernel_rfl))
 f318:=Tryz.func178.trans (congrArg some (by kernel_rfl))
 f319:=Tryz.func179.trans (congrArg some (by kernel_rfl))
 f320:=Tryz.func180.trans (congrArg some (by kernel_rfl))
 f337:=Tryz.func184.trans (congrArg some (by kernel_rfl))
 f338:=Tryz.func185.trans (congrArg some (by kernel_rfl))
 t0:=Tryz.underlying0
 a0:=Tryz.isAgg0
 z0:=Tryz.sizeOf0
 v0:=Tryz.zeroValue0
 t2:=Tryz.underlying2
 a2:=Tryz.isAgg2
 z2:=Tryz.sizeOf2
 v2:=Tryz.zeroValue2
 t3:=Tryz.underlying3
 a3:=Tryz.isAgg3
 z3:=Tryz.sizeOf3
 v3:=Tryz.zeroValue3
 t4:=Tryz.underlying4
 a4:=Tryz.isAgg4
 z4:=Tryz.sizeOf4
 v4:=Tryz.zeroValue4
 t5:=Tryz.underlying5
 a5:=Tryz.isAgg5
 z5:=Tryz.sizeOf5
 v5:=Tryz.zeroValue5
 t9:=Tryz.underlying9
 a9:=Tryz.isAgg9
 z9:=Tryz.sizeOf9
 v9:=Tryz.zeroValue9
 t20:=Tryz.underlying20
 a20:=Tryz.isAgg20
 z20:=Tryz.sizeOf20
 v20:=Tryz.zeroValue20
 t37:=Tryz.underlying22
 a37:=Tryz.isAgg22
 z37:=Tryz.sizeOf22
 v37:=Tryz.zeroValue22
 t46:=Tryz.underlying150
 a46:=Tryz.isAgg150
 z46:=Tryz.sizeOf150
 v46:=Tryz.zeroValue150
 t51:=Tryz.underlying177
 a51:=Tryz.isAgg177
 z51:=Tryz.sizeOf177
 v51:=Tryz.zeroValue177
 t53:=Tryz.underlying179
 a53:=Tryz.isAgg179
 z53:=Tryz.sizeOf179
 v53:=Tryz.zeroValue179
 t171:=Tryz.underlying185
 a171:=Tryz.isAgg185
 z171:=Tryz.sizeOf185
 v171:=Tryz.zeroValue185
 t173:=Tryz.underlying187
 a173:=Tryz.isAgg187
 z173:=Tryz.sizeOf187
 v173:=Tryz.zeroValue187
 t212:=Tryz.underlying202
 a212:=Tryz.isAgg202
 z212:=Tryz.sizeOf202
 v212:=Tryz.zeroValue202
 t213:=Tryz.underlying203
 a213:=Tryz.isAgg203
 z213:=Tryz.sizeOf203
 t232:=Tryz.underlying216
 a232:=Tryz.isAgg216
 z232:=Tryz.sizeOf216
 v232:=Tryz.zeroValue216
 t233:=Tryz.underlying217
 a233:=Tryz.isAgg217
 z233:=Tryz.sizeOf217
 v233:=Tryz.zeroValue217
 g17:=by kernel_rfl
 g18:=by kernel_rfl
 g19:=by kernel_rfl
 i0:=by kernel_rfl
 i2:=by kernel_rfl
 i3:=by kernel_rfl
 i4:=by kernel_rfl
 i5:=by kernel_rfl
 i9:=by kernel_rfl
 i20:=by kernel_rfl
 i37:=by kernel_rfl
 i46:=by kernel_rfl
 i51:=by kernel_rfl
 i53:=by kernel_rfl
 i171:=by kernel_rfl
 i173:=by kernel_rfl
 i212:=by kernel_rfl
 i232:=by kernel_rfl
 i233:=by kernel_rfl
 m17:=by kernel_rfl
 m18:=by kernel_rfl
 m19:=by kernel_rfl }
theorem strconvItoaA (n : Int) (h0 : -9223372036854775808 ≤ n) (h1 : n ≤ 9223372036854775807) : FnT Tryz.prog 91 [.one (.v (.int .i64 n))] (.a (.one (.v (.string (bs (itoS n)))))) := by
 refine ⟨⟨_, Tryz.func91, by kernel_rfl, by kernel_rfl⟩, fun w vs F hG hv => ?_⟩
 obtain ⟨v1, vr, G1, G2, rfl, g1, ⟨rfl, rfl⟩, rfl⟩ := hv
 simp only [V0r, C] at g1
 obtain ⟨rfl, rfl, _⟩ := g1
 have htab : Lib.TabIs Tryz.prog w "internal/strconv.uint64pow10" .u64 Lib.pow10Tab := by
  obtain ⟨w0, ⟨_, h2, _⟩, h3⟩ := hG.ex
  have hg : Tryz.prog.globalNamed "internal/strconv.uint64pow10" = some ((Tryz.prog.globalNamed "internal/strconv.uint64pow10").getD 0) := by kernel_rfl
  have hl : (Tryz.prog.globalNamed "internal/strconv.uint64pow10").getD 0 < Tryz.prog.low := Nat.lt_trans (of_decide_eq_true (by kernel_rfl)) low_lt
  unfold Lib.TabIs World.var? at h2 ⊢
  rw [hg] at h2 ⊢
  simp only [Option.bind_some] at h2 ⊢
  rw [h3 _ hl]; exact h2
 have hcon := Any.strconv_Itoa Tryz.laysM171 n h0 h1 w htab
 change Calls Tryz.prog 91 _ _ _ at hcon
 refine hcon.mono ?_
 rintro e w' ⟨rfl, k, os, rfl⟩
 refine ⟨_, [], rfl, ?_, List.nodup_nil, by simp, ⟨rfl, rfl, rfl, (by show w.heap.size ≤ (w.heap ++ os).size; rw [Array.size_append]; omega), fun j hj => (by show (w.heap ++ os)[j]? = w.heap[j]?; exact Array.getElem?_append_left hj)⟩⟩
 simp [Vr, V0r, C]
 exact ⟨rfl, rfl⟩
def Tryz.laysM146_ren:Go.Shelf.Ren:=⟨fun|146=>63|221=>92|268=>120|138=>121|143=>122|195=>141|197=>142|218=>143|219=>114|260=>168|217=>102|225=>136|224=>137|267=>138|266=>130|314=>163|n=>n,fun|9=>9|31=>87|3=>3|4=>4|0=>0|105=>160|21=>21|5=>5|46=>150|119=>204|139=>207|138=>206|146=>183|51=>177|n=>n,fun|1=>0|3=>4|4=>5|n=>n⟩
theorem Tryz.laysM146:Go.Proofs.LaysM.n146 Tryz.prog Tryz.laysM146_ren:={
 mixed:=by kernel_rfl
 f138:=Tryz.func121.trans (congrArg some (by kernel_rfl))
 f143:=Tryz.func122.trans (congrArg some (by kernel_rfl))
 f146:=Tryz.func63.trans (congrArg some (by kernel_rfl))
 f195:=Tryz.func141.trans (congrArg some (by kernel_rfl))
 f197:=Tryz.func142.trans (congrArg some (by kernel_rfl))
 f217:=Tryz.func102.trans (congrArg some (by kernel_rfl))
 f218:=Tryz.func143.trans (congrArg some (by kernel_rfl))
 f219:=Tryz.func114.trans (congrArg some (by kernel_rfl))
 f221:=Tryz.func92.trans (congrArg some (by kernel_rfl))
 f224:=Tryz.func137.trans (congrArg some (by kernel_rfl))
 f225:=Tryz.func136.trans (congrArg some (by kernel_rfl))
 f260:=Tryz.func168.trans (congrArg some (by kernel_rfl))
 f266:=Tryz.func130.trans (congrArg some (by kernel_rfl))
 f267:=Tryz.func138.trans (congrArg some (by kernel_rfl))
 f268:=Tryz.func120.trans (congrArg some (by kernel_rfl))
 f314:=Tryz.func163.trans (congrArg some (by kernel_rfl))
 t0:=Tryz.underlying0
 a0:=Tryz.isAgg0
 z0:=Tryz.sizeOf0
 v0:=Tryz.zeroValue0
 t3:=Tryz.underlying3
 a3:=Tryz.isAgg3
 z3:=Tryz.sizeOf3
 v3:=Tryz.zeroValue3
 t4:=Tryz.underlying4
 a4:=Tryz.isAgg4
 z4:=Tryz.sizeOf4
 v4:=Tryz.zeroValue4
 t5:=Tryz.underlying5
 a5:=Tryz.isAgg5
 z5:=Tryz.sizeOf5
 v5:=Tryz.zeroValue5
 t9:=Tryz.underlying9
 a9:=Tryz.isAgg9
 z9:=Tryz.sizeOf9
 v9:=Tryz.zeroValue9
 t21:=Tryz.underlying21
 a21:=Tryz.isAgg21
 z21:=Tryz.sizeOf21
 v21:=Tryz.zeroValue21
 t31:=Tryz.underlying87
 a31:=Tryz.isAgg87
 z31:=Tryz.sizeOf87
 v31:=Tryz.zeroValue87
 t46:=Tryz.underlying150
 a46:=Tryz.isAgg150
 z46:=Tryz.sizeOf150
 v46:=Tryz.zeroValue150
 t51:=Tryz.underlying177
 a51:=Tryz.isAgg177
 z51:=Tryz.sizeOf177
 v51:=Tryz.zeroValue177
 t105:=Tryz.underlying160
 a105:=Tryz.isAgg160
 z105:=Tryz.sizeOf160
 v105:=Tryz.zeroValue160
 t119:=Tryz.underlying204
 a119:=Tryz.isAgg204
 z119:=Tryz.sizeOf204
 t138:=Tryz.underlying206
 a138:=Tryz.isAgg206
 z138:=Tryz.sizeOf206
 v138:=Tryz.zeroValue206
 t139:=Tryz.underlying207
 a139:=Tryz.isAgg207
 z139:=Tryz.sizeOf207
 v139:=Tryz.zeroValue207
 t146:=Tryz.underlying183
 a146:=Tryz.isAgg183
 z146:=Tryz.sizeOf183
 v146:=Tryz.zeroValue183
 g1:=by kernel_rfl
 g3:=by kernel_rfl
 g4:=by kernel_rfl
 i0:=by kernel_rfl
 i3:=by kernel_rfl
 i4:=by kernel_rfl
 i5:=by kernel_rfl
 i9:=by kernel_rfl
 i21:=by kernel_rfl
 i31:=by kernel_rfl
 i46:=by kernel_rfl
 i51:=by kernel_rfl
 i105:=by kernel_rfl
 i138:=by kernel_rfl
 i139:=by kernel_rfl
 i146:=by kernel_rfl
 m1:=by kernel_rfl
 s1_3:=fun w h=>Go.Proofs.cell_of_shapedOpen_int (zero:=#[.int .i64 0]) (t:=3) h (of_decide_eq_true (by kernel_rfl)) (by kernel_rfl) rfl (by kernel_rfl) (by kernel_rfl) Tryz.underlying3
 m3:=by kernel_rfl
 m4:=by kernel_rfl }
theorem stringsSplit (s : ByteArray) (c : UInt8) (hs : s.size < 4294967281) : FnT Tryz.prog 63 [.one (.v (.string s)), .one (.v (.string (bs [c])))] (.a (.one (.sl 1 ((splitL c s.data.toList).map cStr)))) := by
 refine ⟨⟨_, Tryz.func63, by kernel_rfl, by kernel_rfl⟩, fun w vs F hG hv => ?_⟩
 obtain ⟨v1, vr, G1, G2, rfl, g1, ⟨v2, vr2, G3, G4, rfl, g2, ⟨rfl, rfl⟩, rfl⟩, rfl⟩ := hv
 simp only [V0r, C] at g1 g2
 obtain ⟨rfl, rfl, _⟩ := g1
 obtain ⟨rfl, rfl, _⟩ := g2
 have hgl : Tryz.laysM146_ren.g 1 < Tryz.prog.low := Nat.lt_trans (of_decide_eq_true (by kernel_rfl)) low_lt
 obtain ⟨m, hm⟩ : ∃ m, w.cell? ⟨Tryz.laysM146_ren.g 1, 0, none⟩ = some (.int .i64 m) := by
  obtain ⟨w0, ⟨h2, _⟩, h3⟩ := hG.ex
  obtain ⟨m, hm⟩ := Tryz.laysM146.s1_3 w0 h2
  exact ⟨m, (World.cell?_of_block (a := ⟨Tryz.laysM146_ren.g 1, 0, none⟩) (h3 _ hgl)).trans hm⟩
 have hcon := Any.strings_Split { Tryz.laysM146 with } Tryz.laysM146.i9 s (bs [c]) m w hs hm (by rw [bs_size]; simp)
 change Calls Tryz.prog 63 _ _ _ at hcon
 have hcnt : Lib.countB s (bs [c]) = s.data.toList.count c := by
  have e : Lib.countB s (bs [c]) = Lib.count s.data.toList (bs [c]).data.toList := rfl
  rw [e, bs_list, Lib.count_one]
 rw [hcnt, split_eq c _ s rfl] at hcon
 have hlen := splitL_len c s.data.toList
 have hle : s.data.toList.count c ≤ s.size := by
  have := List.count_le_length (a := c) (l := s.data.toList)
  rw [Array.length_toList] at this; exact this
 refine hcon.mono ?_
 rintro e w' ⟨rfl, rfl⟩
 have hb : (w.alloc (.cells (((splitL c s.data.toList).map bs).map Value.string).toArray (Tryz.laysM146_ren.t 9))).heap[w.heap.size]? = some (.cells (((splitL c s.data.toList).map bs).map Value.string).toArray (Tryz.laysM146_ren.t 9)) := by
  show (w.heap.push _)[w.heap.size]? = _
  rw [Array.getElem?_push, if_pos rfl]
 have key : ∀ (xs pre : List (List UInt8)) (all : List Value) (W : World) (e : TypeId), W.heap[w.heap.size]? = some (.cells all.toArray e) → all = (pre ++ xs).map (fun x => Value.string (bs x)) → Rws true W w.heap.size 1 pre.length (xs.map cStr) [] := by
  intro xs
  induction xs with
  | nil => intro pre all W e h1 h2; simp only [List.map_nil, Rws]
  | cons x xs ih =>
   intro pre all W e h1 h2
   have := ih (pre ++ [x]) all W e h1 (by rw [h2]; simp)
   rw [List.length_append, List.length_singleton] at this
   rw [List.map_cons]
   unfold Rws
   refine ⟨[], [], rfl, ?_, this, rfl⟩
   unfold cStr Ms
   refine ⟨_, [], [], ?_, by unfold C; exact ⟨rfl, rfl, rfl⟩, by unfold Ms; rfl, rfl⟩
   simp [World.cell?, h1, h2]
 refine ⟨_, [w.heap.size], rfl, ?_, by simp, fun b hb' => ?_, Below.alloc (Below.refl _ _) (Nat.le_refl _) _⟩
 · show C true _ (.sl 1 _) _ _
   unfold C
   refine ⟨_, _, _, rfl, by rw [List.length_map, hlen], Nat.le_refl _, by (show _ ≤ maxLen); (unfold maxLen); omega, .inr ⟨_, 0, [], rfl, rfl, ?_, fun _ => ⟨rfl, _, _, hb, by simp [hlen]⟩, ?_⟩⟩
   · show w.heap.size < (w.heap.push _).size
     simp
   · exact key _ [] _ _ _ hb (by simp)
 · rw [List.mem_singleton] at hb'
   subst hb'
   refine ⟨Nat.le_refl _, ?_⟩
   exact ⟨_, _, hb⟩
def Tryz.laysM145_ren:Go.Shelf.Ren:=⟨fun|145=>53|220=>84|219=>114|217=>102|225=>136|224=>137|267=>138|266=>130|314=>163|n=>n,fun|9=>9|4=>4|59=>75|3=>3|5=>5|46=>150|146=>183|51=>177|n=>n,fun|1=>0|n=>n⟩
theorem Tryz.laysM145:Go.Proofs.LaysM.n145 Tryz.prog Tryz.laysM145_ren:={
 mixed:=by kernel_rfl
 f145:=Tryz.func53.trans (congrArg some (by kernel_rfl))
 f217:=Tryz.func102.trans (congrArg some (by kernel_rfl))
 f219:=Tryz.func114.trans (congrArg some (by kernel_rfl))
 f220:=Tryz.func84.trans (congrArg some (by kernel_rfl))
 f224:=Tryz.func137.trans (congrArg some (by kernel_rfl))
 f225:=Tryz.func136.trans (congrArg some (by kernel_rfl))
 f266:=Tryz.func130.trans (congrArg some (by kernel_rfl))
 f267:=Tryz.func138.trans (congrArg some (by kernel_rfl))
 f314:=Tryz.func163.trans (congrArg some (by kernel_rfl))
 t3:=Tryz.underlying3
 a3:=Tryz.isAgg3
 z3:=Tryz.sizeOf3
 v3:=Tryz.zeroValue3
 t4:=Tryz.underlying4
 a4:=Tryz.isAgg4
 z4:=Tryz.sizeOf4
 v4:=Tryz.zeroValue4
 t5:=Tryz.underlying5
 a5:=Tryz.isAgg5
 z5:=Tryz.sizeOf5
 v5:=Tryz.zeroValue5
 t9:=Tryz.underlying9
 a9:=Tryz.isAgg9
 z9:=Tryz.sizeOf9
 v9:=Tryz.zeroValue9
 t46:=Tryz.underlying150
 a46:=Tryz.isAgg150
 z46:=Tryz.sizeOf150
 v46:=Tryz.zeroValue150
 t51:=Tryz.underlying177
 a51:=Tryz.isAgg177
 z51:=Tryz.sizeOf177
 v51:=Tryz.zeroValue177
 t59:=Tryz.underlying75
 a59:=Tryz.isAgg75
 z59:=Tryz.sizeOf75
 v59:=Tryz.zeroValue75
 t146:=Tryz.underlying183
 a146:=Tryz.isAgg183
 z146:=Tryz.sizeOf183
 v146:=Tryz.zeroValue183
 g1:=by kernel_rfl
 i3:=by kernel_rfl
 i4:=by kernel_rfl
 i5:=by kernel_rfl
 i9:=by kernel_rfl
 i46:=by kernel_rfl
 i51:=by kernel_rfl
 i59:=by kernel_rfl
 i146:=by kernel_rfl
 m1:=by kernel_rfl
 s1_3:=fun w h=>Go.Proofs.cell_of_shapedOpen_int (zero:=#[.int .i64 0]) (t:=3) h (of_decide_eq_true (by kernel_rfl)) (by kernel_rfl) rfl (by kernel_rfl) (by kernel_rfl) Tryz.underlying3 }
theorem stringsCut (s : ByteArray) (sep : List UInt8) (hs : s.size < 4294967281) : FnT Tryz.prog 53 [.one (.v (.string s)), .one (.v (.string (bs sep)))] (.tup [.one (.v (.string (bs (Lib.cut s.data.toList sep).1))), .one (.v (.string (bs (Lib.cut s.data.toList sep).2.1))), .one (.v (.bool (Lib.cut s.data.toList sep).2.2))]) := by
 refine ⟨⟨_, Tryz.func53, by kernel_rfl, by kernel_rfl⟩, fun w vs F hG hv => ?_⟩
 obtain ⟨v1, vr, G1, G2, rfl, g1, ⟨v2, vr2, G3, G4, rfl, g2, ⟨rfl, rfl⟩, rfl⟩, rfl⟩ := hv
 simp only [V0r, C] at g1 g2
 obtain ⟨rfl, rfl, _⟩ := g1
 obtain ⟨rfl, rfl, _⟩ := g2
 have hgl : Tryz.laysM145_ren.g 1 < Tryz.prog.low := Nat.lt_trans (of_decide_eq_true (by kernel_rfl)) low_lt
 obtain ⟨m, hm⟩ : ∃ m, w.cell? ⟨Tryz.laysM145_ren.g 1, 0, none⟩ = some (.int .i64 m) := by
  obtain ⟨w0, ⟨h2, _⟩, h3⟩ := hG.ex
  obtain ⟨m, hm⟩ := Tryz.laysM145.s1_3 w0 h2
  exact ⟨m, (World.cell?_of_block (a := ⟨Tryz.laysM145_ren.g 1, 0, none⟩) (h3 _ hgl)).trans hm⟩
 have hcon := Any.strings_Cut { Tryz.laysM145 with } s (bs sep) m w hs hm
 change Calls Tryz.prog 53 _ _ _ at hcon
 rw [bs_list] at hcon
 refine hcon.mono ?_
 rintro e w' ⟨rfl, n, rfl⟩
 refine ⟨_, [], rfl, ?_, List.nodup_nil, by simp, ⟨rfl, rfl, rfl, Nat.le_refl _, fun _ _ => rfl⟩⟩
 exact ⟨_, rfl, V0s_vs [.string (bs (Lib.cut s.data.toList sep).1), .string (bs (Lib.cut s.data.toList sep).2.1), .bool (Lib.cut s.data.toList sep).2.2] rfl⟩
def Tryz.lays137_ren:Go.Shelf.Ren:=⟨fun|137=>72|217=>102|266=>130|n=>n,fun|9=>9|5=>5|3=>3|n=>n,fun|n=>n⟩
theorem Tryz.lays137:Go.Proofs.Lays.n137 Tryz.prog Tryz.lays137_ren:={
 mixed:=by kernel_rfl
 f137:=Tryz.func72.trans (congrArg some (by kernel_rfl))
 f217:=Tryz.func102.trans (congrArg some (by kernel_rfl))
 f266:=Tryz.func130.trans (congrArg some (by kernel_rfl))
 t3:=Tryz.underlying3
 a3:=Tryz.isAgg3
 z3:=Tryz.sizeOf3
 v3:=Tryz.zeroValue3
 t5:=Tryz.underlying5
 a5:=Tryz.isAgg5
 z5:=Tryz.sizeOf5
 v5:=Tryz.zeroValue5
 t9:=Tryz.underlying9
 a9:=Tryz.isAgg9
 z9:=Tryz.sizeOf9
 v9:=Tryz.zeroValue9 }
theorem stringsIndexByte (s : ByteArray) (c : UInt8) : FnT Tryz.prog 72 [.one (.v (.string s)), .one (.v (.int .u8 c.toNat))] (.a (.one (.v (.int .i64 (Lib.indexByte s.data.toList c))))) := by
 refine ⟨⟨_, Tryz.func72, by kernel_rfl, by kernel_rfl⟩, fun w vs F hG hv => ?_⟩
 obtain ⟨v1, vr, G1, G2, rfl, g1, ⟨v2, vr2, G3, G4, rfl, g2, ⟨rfl, rfl⟩, rfl⟩, rfl⟩ := hv
 simp only [V0r, C] at g1 g2
 obtain ⟨rfl, rfl, _⟩ := g1
 obtain ⟨rfl, rfl, _⟩ := g2
 have hcon := Any.strings_IndexByte Tryz.lays137 s (c.toNat : Int) w
 rw [show ((c.toNat : Nat) : Int).toNat.toUInt8 = c by simp] at hcon
 change Calls Tryz.prog 72 _ _ _ at hcon
 refine hcon.mono ?_
 rintro e w' ⟨rfl, rfl⟩
 refine ⟨_, [], rfl, ?_, List.nodup_nil, by simp, Ext.refl _⟩
 simp [Vr, V0r, C]
 rfl
end Go.Proofs.YtbkhopfpejhnlaaGreatDoor
set_option maxHeartbeats 1000000
set_option maxRecDepth 100000
namespace Go.Q
open Go.D
theorem decFrom_snoc : ∀ (l : List UInt8) (acc : Nat) (b : UInt8) (n d : Nat), Lib.decFrom acc l = some n → Lib.digitVal b = some d → Lib.decFrom acc (l ++ [b]) = some (n * 10 + d)
 | [], acc, b, n, d, h, hd => by
  simp only [Lib.decFrom, Option.some.injEq] at h
  subst h
  rw [List.nil_append]
  unfold Lib.decFrom
  rw [hd]; rfl
 | x :: l, acc, b, n, d, h, hd => by
  rw [List.cons_append]
  unfold Lib.decFrom at h ⊢
  cases hx : Lib.digitVal x with
  | none => rw [hx] at h; cases h
  | some v =>
   rw [hx] at h
   exact decFrom_snoc l _ b n d h hd
theorem digitVal_of {d : Nat} (h : d < 10) : Lib.digitVal (UInt8.ofNat (48 + d)) = some d := by
 have e : (UInt8.ofNat (48 + d)).toNat = 48 + d := by rw [UInt8.toNat_ofNat']; omega
 unfold Lib.digitVal
 rw [e, if_pos (by omega)]
 congr 1; omega
theorem decFrom_dig : ∀ (k u : Nat), u < k → Lib.decFrom 0 (Lib.decDigits u) = some u
 | 0, _, h => by omega
 | k + 1, u, h => by
  by_cases h1 : u < 10
  · rw [dig_small h1]
    have := decFrom_snoc [] 0 _ 0 u rfl (digitVal_of h1)
    rw [List.nil_append] at this
    rw [this]; congr 1; omega
  · rw [dig_more (by omega), decFrom_snoc _ 0 _ _ _ (decFrom_dig k (u / 10) (by omega)) (digitVal_of (Nat.mod_lt u (by decide)))]
    congr 1; omega
theorem decNat_dig (u : Nat) : Lib.decNat (Lib.decDigits u) = some u := by
 unfold Lib.decNat
 rw [if_neg (by simpa using dig_ne u)]
 exact decFrom_dig (u + 1) u (by omega)
theorem dig_first {u : Nat} {b : UInt8} {r : List UInt8} (h : Lib.decDigits u = b :: r) : b ≠ 45 ∧ b ≠ 43 := by
 have h1 := List.all_eq_true.1 (dig_all (u + 1) u (by omega)) b (by rw [h]; simp)
 constructor
 · rintro rfl; exact absurd h1 (by decide)
 · rintro rfl; exact absurd h1 (by decide)
theorem atoi_itoS (n : Int) : Lib.atoi (itoS n) = some n := by
 unfold itoS Lib.itoa
 by_cases h : n < 0
 · rw [if_pos h]
   have e : Lib.atoi (45 :: Lib.decDigits n.natAbs) = (Lib.decNat (Lib.decDigits n.natAbs)).map fun (m : Nat) => -(m : Int) := rfl
   rw [e, decNat_dig]
   simp only [Option.map_some, Option.some.injEq]; omega
 · rw [if_neg h]
   have hd := decNat_dig n.toNat
   cases hl : Lib.decDigits n.toNat with
   | nil => exact absurd hl (dig_ne _)
   | cons b r =>
    rw [hl] at hd
    have hb := dig_first hl
    show (if (b == 45) = true then _ else if (b == 43) = true then _ else (Lib.decNat (b :: r)).map fun (m : Nat) => (m : Int)) = some n
    rw [if_neg (by simpa using hb.1), if_neg (by simpa using hb.2), hd]
    simp only [Option.map_some, Option.some.injEq]; omega
theorem parseI_atoi (l : List UInt8) : parseI l = match Lib.atoi l with
 | some n => if l.length ≤ 10 ∧ itoS n = l ∧ -999999999 ≤ n ∧ n ≤ 999999999 then (n, true) else (0, false)
 | none => (0, false) := by
 cases h : Lib.atoi l with
 | none =>
  exact parseI_no fun n e => by rw [← e, atoi_itoS] at h; cases h
 | some n =>
  simp only
  by_cases e : itoS n = l
  · rw [parseI_of e]
    have hl : (-999999999 ≤ n ∧ n ≤ 999999999) → l.length ≤ 10 := fun hb => by
     have h1 := (dig_le 9 n.natAbs (by decide)).1 (by omega)
     rw [← e]
     unfold itoS Lib.itoa
     split
     · rw [List.length_cons]; omega
     · rw [show n.toNat = n.natAbs by omega]; omega
    by_cases hb : -999999999 ≤ n ∧ n ≤ 999999999
    · rw [if_pos hb, if_pos ⟨hl hb, e, hb⟩]
    · rw [if_neg hb, if_neg fun hh => hb hh.2.2]
  · rw [if_neg fun hh => e hh.2.1]
    exact parseI_no fun m em => by
     have := atoi_itoS m
     rw [em, h] at this
     cases this
     exact e em
end Go.Q
set_option maxHeartbeats 1000000
set_option maxRecDepth 100000
namespace Go.Proofs.YtbkhopfpejhnlaaGreatDoor
open Go.RowKit Go.Q Go.D Go.Shelf
def Tryz.lays172_ren:Go.Shelf.Ren:=⟨fun|172=>93|244=>123|245=>124|247=>144|279=>145|280=>146|281=>147|282=>148|287=>169|316=>170|171=>91|205=>171|321=>181|322=>182|243=>119|246=>140|283=>164|284=>165|285=>166|286=>167|129=>160|317=>177|318=>178|319=>179|320=>180|337=>184|338=>185|n=>n,fun|9=>9|3=>3|75=>121|76=>122|4=>4|5=>5|167=>162|37=>22|0=>0|85=>163|2=>2|168=>165|53=>179|175=>189|46=>150|210=>193|127=>156|145=>212|143=>210|21=>21|171=>185|173=>187|212=>202|51=>177|20=>20|213=>203|232=>216|233=>217|80=>142|n=>n,fun|15=>1|16=>2|17=>3|18=>6|19=>7|n=>n⟩
theorem Tryz.lays172:Go.Proofs.Lays.n172 Tryz.prog Tryz.lays172_ren:={
 mixed:=by kernel_rfl
 f129:=Tryz.func160.trans (congrArg some (by kernel_rfl))
 f171:=Tryz.func91.trans (congrArg some (by kernel_rfl))
 f172:=Tryz.func93.trans (congrArg some (by kernel_rfl))
 f205:=Tryz.func171.trans (congrArg some (by kernel_rfl))
 f243:=Tryz.func119.trans (congrArg some (by kernel_rfl))
 f244:=Tryz.func123.trans (congrArg some (by kernel_rfl))
 f245:=Tryz.func124.trans (congrArg some (by kernel_rfl))
 f246:=Tryz.func140.trans (congrArg some (by kernel_rfl))
 f247:=Tryz.func144.trans (congrArg some (by kernel_rfl))
 f279:=Tryz.func145.trans (congrArg some (by kernel_rfl))
 f280:=Tryz.func146.trans (congrArg some (by kernel_rfl))
 f281:=Tryz.func147.trans (congrArg some (by kernel_rfl))
 f282:=Tryz.func148.trans (congrArg some (by kernel_rfl))
 f283:=Tryz.func164.trans (congrArg some (by kernel_rfl))
 f284:=Tryz.func165.trans (congrArg some (by kernel_rfl))
 f285:=Tryz.func166.trans (congrArg some (by kernel_rfl))
 f286:=Tryz.func167.trans (congrArg some (by kernel_rfl))
 f287:=Tryz.func169.trans (congrArg some (by kernel_rfl))
 f316:=Tryz.func170.trans (congrArg some (by kernel_rfl))
 f317:=Tryz.func177.trans (congrArg some (by kernel_rfl))
 f318:=Tryz.func178.trans (congrArg some (by kernel_rfl))
 f319:=Tryz.func179.trans (congrArg some (by kernel_rfl))
 f320:=Tryz.func180.trans (congrArg some (by kernel_rfl))
 f321:=Tryz.func181.trans (congrArg some (by kernel_rfl))
 f322:=Tryz.func182.trans (congrArg some (by kernel_rfl))
 f337:=Tryz.func184.trans (congrArg some (by kernel_rfl))
 f338:=Tryz.func185.trans (congrArg some (by kernel_rfl))
 t0:=Tryz.underlying0
 a0:=Tryz.isAgg0
 z0:=Tryz.sizeOf0
 v0:=Tryz.zeroValue0
 t2:=Tryz.underlying2
 a2:=Tryz.isAgg2
 z2:=Tryz.sizeOf2
 v2:=Tryz.zeroValue2
 t3:=Tryz.underlying3
 a3:=Tryz.isAgg3
 z3:=Tryz.sizeOf3
 v3:=Tryz.zeroValue3
 t4:=Tryz.underlying4
 a4:=Tryz.isAgg4
 z4:=Tryz.sizeOf4
 v4:=Tryz.zeroValue4
 t5:=Tryz.underlying5
 a5:=Tryz.isAgg5
 z5:=Tryz.sizeOf5
 v5:=Tryz.zeroValue5
 t9:=Tryz.underlying9
 a9:=Tryz.isAgg9
 z9:=Tryz.sizeOf9
 v9:=Tryz.zeroValue9
 t20:=Tryz.underlying20
 a20:=Tryz.isAgg20
 z20:=Tryz.sizeOf20
 v20:=Tryz.zeroValue20
 t21:=Tryz.underlying21
 a21:=Tryz.isAgg21
 z21:=Tryz.sizeOf21
 v21:=Tryz.zeroValue21
 t37:=Tryz.underlying22
 a37:=Tryz.isAgg22
 z37:=Tryz.sizeOf22
 v37:=Tryz.zeroValue22
 t46:=Tryz.underlying150
 a46:=Tryz.isAgg150
 z46:=Tryz.sizeOf150
 v46:=Tryz.zeroValue150
 t51:=Tryz.underlying177
 a51:=Tryz.isAgg177
 z51:=Tryz.sizeOf177
 v51:=Tryz.zeroValue177
 t53:=Tryz.underlying179
 a53:=Tryz.isAgg179
 z53:=Tryz.sizeOf179
 v53:=Tryz.zeroValue179
 t75:=Tryz.underlying121
 a75:=Tryz.isAgg121
 z75:=Tryz.sizeOf121
 v75:=Tryz.zeroValue121
 t76:=Tryz.underlying122
 a76:=Tryz.isAgg122
 z76:=Tryz.sizeOf122
 v76:=Tryz.zeroValue122
 t85:=Tryz.underlying163
 a85:=Tryz.isAgg163
 z85:=Tryz.sizeOf163
 v85:=Tryz.zeroValue163
 t127:=Tryz.underlying156
 a127:=Tryz.isAgg156
 z127:=Tryz.sizeOf156
 v127:=Tryz.zeroValue156
 t143:=Tryz.underlying210
 a143:=Tryz.isAgg210
 z143:=Tryz.sizeOf210
 v143:=Tryz.zeroValue210
 t145:=Tryz.underlying212
 a145:=Tryz.isAgg212
 z145:=Tryz.sizeOf212
 v145:=Tryz.zeroValue212
 t167:=Tryz.underlying162
 a167:=Tryz.isAgg162
 z167:=Tryz.sizeOf162
 v167:=Tryz.zeroValue162
 t168:=Tryz.underlying165
 a168:=Tryz.isAgg165
 z168:=Tryz.sizeOf165
 v168:=Tryz.zeroValue165
 t171:=Tryz.underlying185
 a171:=Tryz.isAgg185
 z171:=Tryz.sizeOf185
 v171:=Tryz.zeroValue185
 t173:=Tryz.underlying187
 a173:=Tryz.isAgg187
 z173:=Tryz.sizeOf187
 v173:=Tryz.zeroValue187
 t175:=Tryz.underlying189
 a175:=Tryz.isAgg189
 z175:=Tryz.sizeOf189
 v175:=Tryz.zeroValue189
 t210:=Tryz.underlying193
 a210:=Tryz.isAgg193
 z210:=Tryz.sizeOf193
 v210:=Tryz.zeroValue193
 t212:=Tryz.underlying202
 a212:=Tryz.isAgg202
 z212:=Tryz.sizeOf202
 v212:=Tryz.zeroValue202
 t213:=Tryz.underlying203
 a213:=Tryz.isAgg203
 z213:=Tryz.sizeOf203
 t232:=Tryz.underlying216
 a232:=Tryz.isAgg216
 z232:=Tryz.sizeOf216
 v232:=Tryz.zeroValue216
 t233:=Tryz.underlying217
 a233:=Tryz.isAgg217
 z233:=Tryz.sizeOf217
 v233:=Tryz.zeroValue217
 g15:=by kernel_rfl
 g16:=by kernel_rfl
 g17:=by kernel_rfl
 g18:=by kernel_rfl
 g19:=by kernel_rfl }
theorem strconvAtoi (l : List UInt8) (n : Int) (hl : l.length ≤ 18) (h : Lib.atoi l = some n) : FnT Tryz.prog 93 [.one (.v (.string (bs l)))] (.tup [.one (.v (.int .i64 n)), .one (.v .nilIface)]) := by
 refine ⟨⟨_, Tryz.func93, by kernel_rfl, by kernel_rfl⟩, fun w vs F hG hv => ?_⟩
 obtain ⟨v1, vr, G1, G2, rfl, g1, ⟨rfl, rfl⟩, rfl⟩ := hv
 simp only [V0r, C] at g1
 obtain ⟨rfl, rfl, _⟩ := g1
 have hcon := Any.strconv_Atoi Tryz.lays172 (bs l) n (by rw [bs_size]; exact hl) (by rw [bs_list]; exact h) w
 change Calls Tryz.prog 93 _ _ _ at hcon
 refine hcon.mono ?_
 rintro e w' ⟨rfl, t, rfl⟩
 exact ⟨_, [], rfl, ⟨_, rfl, V0s_vs [.int .i64 n, .nilIface] rfl⟩, List.nodup_nil, by simp, Lib.bytesWorld_below _ _ _⟩
def Tryz.laysC172_ren:Go.Shelf.Ren:=⟨fun|172=>93|244=>123|245=>124|247=>144|279=>145|280=>146|281=>147|282=>148|287=>169|316=>170|171=>91|205=>171|321=>181|322=>182|243=>119|246=>140|283=>164|284=>165|285=>166|286=>167|129=>160|317=>177|318=>178|319=>179|320=>180|337=>184|338=>185|n=>n,fun|9=>9|3=>3|75=>121|76=>122|4=>4|5=>5|167=>162|37=>22|0=>0|85=>163|2=>2|168=>165|53=>179|175=>189|46=>150|210=>193|127=>156|145=>212|143=>210|21=>21|171=>185|173=>187|212=>202|51=>177|20=>20|213=>203|232=>216|233=>217|80=>142|n=>n,fun|15=>1|16=>2|17=>3|18=>6|19=>7|n=>n⟩
theorem Tryz.laysC172:Go.Proofs.LaysC.n172 Tryz.prog Tryz.laysC172_ren:={
 mixed:=by kernel_rfl
 f129:=Tryz.func160.trans (congrArg some (by kernel_rfl))
 f171:=Tryz.func91.trans (congrArg some (by kernel_rfl))
 f172:=Tryz.func93.trans (congrArg some (by kernel_rfl))
 f205:=Tryz.func171.trans (congrArg some (by kernel_rfl))
 f243:=Tryz.func119.trans (congrArg some (by kernel_rfl))
 f244:=Tryz.func123.trans (congrArg some (by kernel_rfl))
 f245:=Tryz.func124.trans (congrArg some (by kernel_rfl))
 f246:=Tryz.func140.trans (congrArg some (by kernel_rfl))
 f247:=Tryz.func144.trans (congrArg some (by kernel_rfl))
 f279:=Tryz.func145.trans (congrArg some (by kernel_rfl))
 f280:=Tryz.func146.trans (congrArg some (by kernel_rfl))
 f281:=Tryz.func147.trans (congrArg some (by kernel_rfl))
 f282:=Tryz.func148.trans (congrArg some (by kernel_rfl))
 f283:=Tryz.func164.trans (congrArg some (by kernel_rfl))
 f284:=Tryz.func165.trans (congrArg some (by kernel_rfl))
 f285:=Tryz.func166.trans (congrArg some (by kernel_rfl))
 f286:=Tryz.func167.trans (congrArg some (by kernel_rfl))
 f287:=Tryz.func169.trans (congrArg some (by kernel_rfl))
 f316:=Tryz.func170.trans (congrArg some (by kernel_rfl))
 f317:=Tryz.func177.trans (congrArg some (by kernel_rfl))
 f318:=Tryz.func178.trans (congrArg some (by kernel_rfl))
 f319:=Tryz.func179.trans (congrArg some (by kernel_rfl))
 f320:=Tryz.func180.trans (congrArg some (by kernel_rfl))
 f321:=Tryz.func181.trans (congrArg some (by kernel_rfl))
 f322:=Tryz.func182.trans (congrArg some (by kernel_rfl))
 f337:=Tryz.func184.trans (congrArg some (by kernel_rfl))
 f338:=Tryz.func185.trans (congrArg some (by kernel_rfl))
 t0:=Tryz.underlying0
 a0:=Tryz.isAgg0
 z0:=Tryz.sizeOf0
 v0:=Tryz.zeroValue0
 t2:=Tryz.underlying2
 a2:=Tryz.isAgg2
 z2:=Tryz.sizeOf2
 v2:=Tryz.zeroValue2
 t3:=Tryz.underlying3
 a3:=Tryz.isAgg3
 z3:=Tryz.sizeOf3
 v3:=Tryz.zeroValue3
 t4:=Tryz.underlying4
 a4:=Tryz.isAgg4
 z4:=Tryz.sizeOf4
 v4:=Tryz.zeroValue4
 t5:=Tryz.underlying5
 a5:=Tryz.isAgg5
 z5:=Tryz.sizeOf5
 v5:=Tryz.zeroValue5
 t9:=Tryz.underlying9
 a9:=Tryz.isAgg9
 z9:=Tryz.sizeOf9
 v9:=Tryz.zeroValue9
 t20:=Tryz.underlying20
 a20:=Tryz.isAgg20
 z20:=Tryz.sizeOf20
 v20:=Tryz.zeroValue20
 t21:=Tryz.underlying21
 a21:=Tryz.isAgg21
 z21:=Tryz.sizeOf21
 v21:=Tryz.zeroValue21
 t37:=Tryz.underlying22
 a37:=Tryz.isAgg22
 z37:=Tryz.sizeOf22
 v37:=Tryz.zeroValue22
 t46:=Tryz.underlying150
 a46:=Tryz.isAgg150
 z46:=Tryz.sizeOf150
 v46:=Tryz.zeroValue150
 t51:=Tryz.underlying177
 a51:=Tryz.isAgg177
 z51:=Tryz.sizeOf177
 v51:=Tryz.zeroValue177
 t53:=Tryz.underlying179
 a53:=Tryz.isAgg179
 z53:=Tryz.sizeOf179
 v53:=Tryz.zeroValue179
 t75:=Tryz.underlying121
 a75:=Tryz.isAgg121
 z75:=Tryz.sizeOf121
 v75:=Tryz.zeroValue121
 t76:=Tryz.underlying122
 a76:=Tryz.isAgg122
 z76:=Tryz.sizeOf122
 v76:=Tryz.zeroValue122
 t85:=Tryz.underlying163
 a85:=Tryz.isAgg163
 z85:=Tryz.sizeOf163
 v85:=Tryz.zeroValue163
 t127:=Tryz.underlying156
 a127:=Tryz.isAgg156
 z127:=Tryz.sizeOf156
 v127:=Tryz.zeroValue156
 t143:=Tryz.underlying210
 a143:=Tryz.isAgg210
 z143:=Tryz.sizeOf210
 v143:=Tryz.zeroValue210
 t145:=Tryz.underlying212
 a145:=Tryz.isAgg212
 z145:=Tryz.sizeOf212
 v145:=Tryz.zeroValue212
 t167:=Tryz.underlying162
 a167:=Tryz.isAgg162
 z167:=Tryz.sizeOf162
 v167:=Tryz.zeroValue162
 t168:=Tryz.underlying165
 a168:=Tryz.isAgg165
 z168:=Tryz.sizeOf165
 v168:=Tryz.zeroValue165
 t171:=Tryz.underlying185
 a171:=Tryz.isAgg185
 z171:=Tryz.sizeOf185
 v171:=Tryz.zeroValue185
 t173:=Tryz.underlying187
 a173:=Tryz.isAgg187
 z173:=Tryz.sizeOf187
 v173:=Tryz.zeroValue187
 t175:=Tryz.underlying189
 a175:=Tryz.isAgg189
 z175:=Tryz.sizeOf189
 v175:=Tryz.zeroValue189
 t210:=Tryz.underlying193
 a210:=Tryz.isAgg193
 z210:=Tryz.sizeOf193
 v210:=Tryz.zeroValue193
 t212:=Tryz.underlying202
 a212:=Tryz.isAgg202
 z212:=Tryz.sizeOf202
 v212:=Tryz.zeroValue202
 t213:=Tryz.underlying203
 a213:=Tryz.isAgg203
 z213:=Tryz.sizeOf203
 t232:=Tryz.underlying216
 a232:=Tryz.isAgg216
 z232:=Tryz.sizeOf216
 v232:=Tryz.zeroValue216
 t233:=Tryz.underlying217
 a233:=Tryz.isAgg217
 z233:=Tryz.sizeOf217
 v233:=Tryz.zeroValue217
 g15:=by kernel_rfl
 g16:=by kernel_rfl
 g17:=by kernel_rfl
 g18:=by kernel_rfl
 g19:=by kernel_rfl
 t80:=Tryz.underlying142
 a80:=Tryz.isAgg142
 z80:=Tryz.sizeOf142
 v80:=Tryz.zeroValue142
 i0:=by kernel_rfl
 i2:=by kernel_rfl
 i3:=by kernel_rfl
 i4:=by kernel_rfl
 i5:=by kernel_rfl
 i9:=by kernel_rfl
 i20:=by kernel_rfl
 i21:=by kernel_rfl
 i37:=by kernel_rfl
 i46:=by kernel_rfl
 i51:=by kernel_rfl
 i53:=by kernel_rfl
 i75:=by kernel_rfl
 i76:=by kernel_rfl
 i80:=by kernel_rfl
 i85:=by kernel_rfl
 i127:=by kernel_rfl
 i143:=by kernel_rfl
 i145:=by kernel_rfl
 i167:=by kernel_rfl
 i168:=by kernel_rfl
 i171:=by kernel_rfl
 i173:=by kernel_rfl
 i175:=by kernel_rfl
 i210:=by kernel_rfl
 i212:=by kernel_rfl
 i232:=by kernel_rfl
 i233:=by kernel_rfl
 m15:=by kernel_rfl
 m16:=by kernel_rfl
 m17:=by kernel_rfl
 m18:=by kernel_rfl
 m19:=by kernel_rfl
 c0:=by kernel_rfl
 c2:=by kernel_rfl
 c3:=by kernel_rfl
 c4:=by kernel_rfl
 c5:=by kernel_rfl
 c9:=by kernel_rfl
 c20:=by kernel_rfl
 c21:=by kernel_rfl
 c37:=by kernel_rfl
 c46:=by kernel_rfl
 c51:=by kernel_rfl
 c53:=by kernel_rfl
 c75:=by kernel_rfl
 c76:=by kernel_rfl
 c80:=by kernel_rfl
 c85:=by kernel_rfl
 c127:=by kernel_rfl
 c143:=by kernel_rfl
 c145:=by kernel_rfl
 c167:=by kernel_rfl
 c168:=by kernel_rfl
 c171:=by kernel_rfl
 c173:=by kernel_rfl
 c175:=by kernel_rfl
 c210:=by kernel_rfl
 c212:=by kernel_rfl
 c213:=by kernel_rfl
 c232:=by kernel_rfl
 c233:=by kernel_rfl }
theorem strconvAtoiE (l : List UInt8) (hl : l.length ≤ 18) (h : Lib.atoi l = none) : FrE Tryz.prog 93 [.one (.v (.string (bs l)))] fun out => ∃ N : Nat, out = .tup [.one (.v (.int .i64 0)), .one (.v (.iface (Tryz.laysC172_ren.t 168) (.pointer (some ⟨N, 0, none⟩))))] := by
 refine ⟨⟨_, Tryz.func93, by kernel_rfl, by kernel_rfl⟩, fun w vs F hG hv => ?_⟩
 obtain ⟨v1, vr, G1, G2, rfl, g1, ⟨rfl, rfl⟩, rfl⟩ := hv
 simp only [V0r, C] at g1
 obtain ⟨rfl, rfl, _⟩ := g1
 obtain ⟨tp, p, hvar⟩ : ∃ tp p, w.cell? ⟨Tryz.laysC172_ren.g 15, 0, none⟩ = some (.iface tp p) := by
  obtain ⟨w0, ⟨_, _, tp, p, h2⟩, h3⟩ := hG.ex
  have h4 := World.var?_cell Tryz.laysC172.m15 h2 0
  have hgl : Tryz.laysC172_ren.g 15 < Tryz.prog.low := Nat.lt_trans (of_decide_eq_true (by kernel_rfl)) low_lt
  exact ⟨tp, p, (World.cell?_of_block (a := ⟨Tryz.laysC172_ren.g 15, 0, none⟩) (h3 _ hgl)).trans (by simpa using h4)⟩
 have hcon := Any.strconv_Atoi_err Tryz.laysC172 (bs l) (by rw [bs_size]; exact hl) (by rw [bs_list]; exact h) (.iface tp p) w hvar (.inr ⟨tp, p, rfl⟩)
 change Calls Tryz.prog 93 _ _ _ at hcon
 refine hcon.mono ?_
 rintro e w' ⟨N, rfl, _, _, hB⟩
 exact ⟨_, ⟨N, rfl⟩, _, [], rfl, ⟨_, rfl, V0s_vs [.int .i64 0, .iface (Tryz.laysC172_ren.t 168) (.pointer (some ⟨N, 0, none⟩))] rfl⟩, by simp, hB⟩
end Go.Proofs.YtbkhopfpejhnlaaGreatDoor
set_option maxHeartbeats 1000000
set_option maxRecDepth 100000
namespace Go.Proofs.YtbkhopfpejhnlaaGreatDoor
open Go.RowKit Go.Q Go.D
theorem specl2Cut (l : List UInt8) (c : UInt8) (hz : l.length ≤ 1073741824) : FnT Tryz.prog 103 [.one (.v (.string (bs l))), .one (.v (.int .u8 c.toNat))] (.a (.one (.sl 1 ((splitL c l).map cStr)))) := by
 refine FnT.walk Tryz.func103 U (by kernel_rfl) Tryz.ntmps103 U fun hlen w0 => ?_
 try simp [cEdge, cGraph, cChange, cBatch, cHistory] at hlen
 have hsz := bs_size l
 refine AW.sr ?_
 refine AWl.ac ?_
 refine AWl.nilS (i := 4) 20001 1 U U ?_
 refine AWl.nil (AW.sr ?_)
 refine AWl.add (R_empty 8 U U U Tryz.underlying87 ty9 U) U ?_
 refine AWl.av ?_
 refine AWl.nil (AW.sr ?_)
 refine AWl.ac ?_
 refine AWl.nil (AW.seq ?_)
 refine AW.sr ?_
 refine AWl.ac ?_
 refine AWl.nil (AW.block ?_)
 refine AW.loop3 (fun (i : Nat) (F : Nat) (O : List (List UInt8)) => (F ≤ i ∧ i ≤ l.length ∧ c ∉ (l.take i).drop F ∧ O.length ≤ i) ∧ splitL c l = O ++ splitL c (l.drop F)) (fun (i : Nat) (F : Nat) (O : List (List UInt8)) => ⟨_, [(6, (true, .a (.one (.t (.v (.int .i64 F)))))), (7, (true, .a (.one (.t (.v (.int .i64 i)))))), (5, (true, .a (.one (.rf 8)))), (0, _), (1, _), (4, _)], [(8, .row 1 (O.map cStr))]⟩) (fun (i : Nat) (F : Nat) (O : List (List UInt8)) => l.length - i) (0) (0) ([]) ⟨⟨by omega, by omega, by simp, by simp⟩, (by simp)⟩ (Le.sub0 U ⟨U, U, U, U, U, U, Y⟩ ⟨U, Y⟩) ?_
 rintro i F O ⟨hk, he⟩
 refine AW.seq ?_
 refine AW.sr ?_
 refine AWl.mv ?_
 refine AWl.mv ?_
 refine AWl.p (R_len_s U (.no U) U (.tm U) Tryz.underlying9) U ?_
 refine AWl.p (R_lt U (.no U) U (.tm U) (.tm U)) U ?_
 refine AWl.nil ?_
 refine AW.cond (.tm U) (fun h12 => ?_) (fun h12 => ?_)
 · skip
   try simp at h12
   obtain ⟨b, hb⟩ : ∃ ξ, l[i]? = some ξ := ⟨_, List.getElem?_eq_getElem (by omega)⟩
   refine AW.skip ?_
   refine AW.seq ?_
   refine AW.block ?_
   refine AW.sr ?_
   refine AWl.mv ?_
   refine AWl.mv ?_
   refine AWl.p (R_strIndex U (.no U) U (.tm U) (.tm U) Tryz.underlying9 (fun _ => ⟨by omega, (by rw [bs_get]; exact hb)⟩)) U ?_
   refine AWl.mv ?_
   refine AWl.p (R_eq U (.no U) U (.tm U) (.tm U)) U ?_
   refine AWl.nil ?_
   refine AW.cond (.tm U) (fun h19 => ?_) (fun h19 => ?_)
   · skip
     try simp at h19
     refine AW.seq ?_
     refine AW.le (σ' := ⟨_, [(0, _), (1, _), (4, _), (5, _), (6, _), (7, _)], [(8, _)]⟩) (Le.sub0 U ⟨U, U, U, U, U, U, Y⟩ ⟨U, Y⟩) ?_
     refine AW.region ?_
     refine AWl.mv ?_
     refine AWl.mv ?_
     refine AWl.mv ?_
     refine AWl.mv ?_
     refine AWl.p (R_strSlice (n := F) (m := i) U (.no U) U (.tm U) (.yes (.tm U) (fun _ => by first | omega | (simp <;> omega))) (.yes (.tm U) (fun _ => by first | omega | (simp <;> omega))) Tryz.underlying9 (fun _ => ⟨by omega, by first | omega | (simp; omega)⟩)) U ?_
     refine AWl.absadd (R_list (xs := [.tmp 24]) 25 U U U (.cons (.tm U) U U .nil) Tryz.underlying87 in9 U U U U) U ?_
     refine AWl.chgput (R_append U U U (.tm U) U (.tm U) (by exact .rf U) (by rfl) Tryz.underlying87 in9 U (by (simp [chunk]; omega)) (by (unfold maxLen; simp [chunk]; omega))) U ?_
     refine AWl.le (σ' := ⟨_, [(0, _), (1, _), (4, _), (5, _), (6, _), (7, _), (26, _)], [(8, _), (25, _)]⟩) (Le.sub0 U ⟨U, U, U, U, U, U, U, Y⟩ ⟨U, U, Y⟩) ?_
     refine AWl.av ?_
     refine AWl.nil (AW.region ?_)
     refine AWl.mv ?_
     refine AWl.p (R_add U (.no U) U (.tm U) (.const U) (fun _ => by omega)) U ?_
     refine AWl.av ?_
     refine AWl.nil (AW.region ?_)
     refine AWl.mv ?_
     refine AWl.p (R_add U (.no U) U (.tm U) (.const U) (fun _ => by omega)) U ?_
     refine AWl.av ?_
     refine AWl.nil ?_
     repeat (with_reducible refine BlockQ.nor ?_)
     refine Round3.next (i + 1) (i + 1) (O ++ [(l.take i).drop F]) ⟨⟨by omega, by omega, (by simp), (by rw [List.length_append, List.length_singleton]; omega)⟩, (cut_step hb hk (UInt8.toNat_inj.1 (by omega)) he)⟩ (by omega) (Le.sub0 rfl ⟨rfl, rfl, rfl, rfl, rfl, rfl, Y⟩ ⟨(by refine congrArg (fun r => some (R.row 1 r)) ?_; simp [chunk, cStr, bs_extract]; done), Y⟩)
   · skip
     try simp at h19
     refine AW.skip ?_
     refine AW.le (σ' := ⟨_, [(0, _), (1, _), (4, _), (5, _), (6, _), (7, _)], [(8, _)]⟩) (Le.sub0 U ⟨U, U, U, U, U, U, Y⟩ ⟨U, Y⟩) ?_
     refine AW.region ?_
     refine AWl.mv ?_
     refine AWl.p (R_add U (.no U) U (.tm U) (.const U) (fun _ => by omega)) U ?_
     refine AWl.av ?_
     refine AWl.nil ?_
     repeat (with_reducible refine BlockQ.nor ?_)
     refine Round3.next (i + 1) (F) (O) ⟨⟨by omega, by omega, cut_keep hb hk (fun e => h19 (by rw [e])), by omega⟩, he⟩ (by omega) (Le.sub0 rfl ⟨rfl, rfl, rfl, rfl, rfl, rfl, Y⟩ ⟨(by refine congrArg (fun r => some (R.row 1 r)) ?_; simp [chunk, cStr, bs_extract]; done), Y⟩)
 · skip
   try simp at h12
   refine AW.exit ?_
   refine AW.sr ?_
   refine AWl.mv ?_
   refine AWl.mv ?_
   refine AWl.mv ?_
   refine AWl.p (R_strSlice (n := F) U (.no U) U (.tm U) (.yes (.tm U) (fun _ => by first | omega | (simp <;> omega))) .no Tryz.underlying9 (fun _ => ⟨by omega, by first | omega | (simp; omega)⟩)) U ?_
   refine AWl.absadd (R_list (xs := [.tmp 32]) 33 U U U (.cons (.tm U) U U .nil) Tryz.underlying87 in9 U U U U) U ?_
   refine AWl.chgput (R_append U U U (.tm U) U (.tm U) (by exact .rf U) (by rfl) Tryz.underlying87 in9 U (by (simp [chunk]; omega)) (by (unfold maxLen; simp [chunk]; omega))) U ?_
   refine AWl.le (σ' := ⟨_, [(0, _), (1, _), (4, _), (5, _), (6, _), (7, _), (12, _), (34, _)], [(8, _), (33, _)]⟩) (Le.sub0 U ⟨U, U, U, U, U, U, U, U, Y⟩ ⟨U, U, Y⟩) ?_
   refine AWl.av ?_
   refine AWl.nil (AW.ret ?_)
   refine Res.one U (.tmp U .nil) U ?_
   (have hi : i = l.length := (by omega); subst hi; rw [he, splitL_no (by rw [List.take_of_length_le (Nat.le_refl _)] at hk; exact hk.2.2.1)]; refine congrArg (fun r => [V0.one (T.sl 1 r)]) ?_; simp [chunk, cStr, bs_extract, hsz]; done)
theorem specChecksum (l : List UInt8) (hz : l.length ≤ 1073741824) : FnT Tryz.prog 35 [.one (.v (.string (bs l)))] (.a (.one (.v (.int .i64 (chkS l))))) := by
 refine FnT.walk Tryz.func35 U (by kernel_rfl) Tryz.ntmps35 U fun hlen w0 => ?_
 try simp [cEdge, cGraph, cChange, cBatch, cHistory] at hlen
 have hsz := bs_size l
 refine AW.sr ?_
 refine AWl.ac ?_
 refine AWl.nil (AW.sr ?_)
 refine AWl.ac ?_
 refine AWl.nil (AW.seq ?_)
 refine AW.sr ?_
 refine AWl.ac ?_
 refine AWl.nil (AW.block ?_)
 refine AW.loop2 (fun (i : Nat) (n : Int) => (i ≤ l.length ∧ 0 ≤ n ∧ n < 9973) ∧ n = chkS (l.take i)) (fun (i : Nat) (n : Int) => ⟨_, [(4, (true, .a (.one (.t (.v (.int .i64 i)))))), (3, (true, .a (.one (.t (.v (.int .i64 n)))))), (0, _), (2, _)], []⟩) (fun (i : Nat) (n : Int) => l.length - i) (0) (1) ⟨⟨Nat.zero_le _, by decide⟩, U⟩ (Le.sub0 U ⟨U, U, U, U, Y⟩ trivial) ?_
 rintro i n ⟨hk, he⟩
 refine AW.seq ?_
 refine AW.sr ?_
 refine AWl.mv ?_
 refine AWl.mv ?_
 refine AWl.p (R_len_s U (.no U) U (.tm U) Tryz.underlying9) U ?_
 refine AWl.p (R_lt U (.no U) U (.tm U) (.tm U)) U ?_
 refine AWl.nil ?_
 refine AW.cond (.tm U) (fun h8 => ?_) (fun h8 => ?_)
 · skip
   try simp at h8
   obtain ⟨b, hb⟩ : ∃ ξ, l[i]? = some ξ := ⟨_, List.getElem?_eq_getElem (by omega)⟩
   have hc := chkS_le (l.take i)
   have hs : chkS (l.take (i + 1)) = (chkS (l.take i) * 257 + (b.toNat : Int) + 1) % 9973 := by rw [take_at hb, chkS_snoc]
   have hb8 : b.toNat < 256 := b.toNat_lt
   refine AW.skip ?_
   refine AW.seq ?_
   refine AW.block ?_
   refine AW.region ?_
   refine AWl.mv ?_
   refine AWl.p (R_mul U (.no U) U (.tm U) (.const U) (fun _ => by omega)) U ?_
   refine AWl.mv ?_
   refine AWl.mv ?_
   refine AWl.p (R_strIndex U (.no U) U (.tm U) (.tm U) Tryz.underlying9 (fun _ => ⟨by omega, (by rw [bs_get]; exact hb)⟩)) U ?_
   refine AWl.p (R_conv U (.no U) U (.tm U) (by rw [Tryz.underlying5]; rfl) Tryz.underlying3 (fun _ => (show IntKind.i64.wrap (b.toNat : Int) = (b.toNat : Int) by simp [IntKind.wrap, IntKind.bits]; omega))) U ?_
   refine AWl.p (R_add U (.no U) U (.tm U) (.tm U) (fun _ => by omega)) U ?_
   refine AWl.p (R_add U (.no U) U (.tm U) (.const U) (fun _ => by omega)) U ?_
   refine AWl.p (R_rem U (.no U) U (.tm U) (.const U) (fun _ => by omega)) U ?_
   refine AWl.av ?_
   refine AWl.nil ?_
   refine AW.le (σ' := ⟨_, [(0, _), (2, _), (3, _), (4, _)], []⟩) (Le.sub0 U ⟨U, U, U, U, Y⟩ trivial) ?_
   refine AW.region ?_
   refine AWl.mv ?_
   refine AWl.p (R_add U (.no U) U (.tm U) (.const U) (fun _ => by omega)) U ?_
   refine AWl.av ?_
   refine AWl.nil ?_
   repeat (with_reducible refine BlockQ.nor ?_)
   refine Round2.next (i + 1) (((n * 257 + (b.toNat : Int) + 1) % 9973)) ⟨⟨by omega, by omega⟩, (by rw [hs, he])⟩ (by omega) (Le.sub0 rfl ⟨rfl, rfl, rfl, rfl, Y⟩ trivial)
 · skip
   try simp at h8
   refine AW.exit ?_
   refine AW.sr ?_
   refine AWl.mv ?_
   refine AWl.av ?_
   refine AWl.nil (AW.ret ?_)
   refine Res.v U U ?_
   (rw [he, List.take_of_length_le (by omega)])
theorem implChecksum (l : List UInt8) (hz : l.length ≤ 1073741824) : FnT Tryz.prog 34 [.one (.v (.string (bs l)))] (.a (.one (.v (.int .i64 (chkS l))))) := by
 refine FnT.walk Tryz.func34 U (by kernel_rfl) Tryz.ntmps34 U fun hlen w0 => ?_
 try simp [cEdge, cGraph, cChange, cBatch, cHistory] at hlen
 have hsz := bs_size l
 refine AW.sr ?_
 refine AWl.ac ?_
 refine AWl.nil (AW.sr ?_)
 refine AWl.ac ?_
 refine AWl.nil (AW.seq ?_)
 refine AW.sr ?_
 refine AWl.ac ?_
 refine AWl.nil (AW.block ?_)
 refine AW.loop2 (fun (i : Nat) (n : Int) => (i ≤ l.length ∧ 0 ≤ n ∧ n < 9973) ∧ n = chkS (l.take i)) (fun (i : Nat) (n : Int) => ⟨_, [(4, (true, .a (.one (.t (.v (.int .i64 i)))))), (3, (true, .a (.one (.t (.v (.int .i64 n)))))), (0, _), (2, _)], []⟩) (fun (i : Nat) (n : Int) => l.length - i) (0) (1) ⟨⟨Nat.zero_le _, by decide⟩, U⟩ (Le.sub0 U ⟨U, U, U, U, Y⟩ trivial) ?_
 rintro i n ⟨hk, he⟩
 refine AW.seq ?_
 refine AW.sr ?_
 refine AWl.mv ?_
 refine AWl.mv ?_
 refine AWl.p (R_len_s U (.no U) U (.tm U) Tryz.underlying9) U ?_
 refine AWl.p (R_lt U (.no U) U (.tm U) (.tm U)) U ?_
 refine AWl.nil ?_
 refine AW.cond (.tm U) (fun h8 => ?_) (fun h8 => ?_)
 · skip
   try simp at h8
   obtain ⟨b, hb⟩ : ∃ ξ, l[i]? = some ξ := ⟨_, List.getElem?_eq_getElem (by omega)⟩
   have hc := chkS_le (l.take i)
   have hs : chkS (l.take (i + 1)) = (chkS (l.take i) * 257 + (b.toNat : Int) + 1) % 9973 := by rw [take_at hb, chkS_snoc]
   have hb8 : b.toNat < 256 := b.toNat_lt
   refine AW.skip ?_
   refine AW.seq ?_
   refine AW.block ?_
   refine AW.region ?_
   refine AWl.mv ?_
   refine AWl.p (R_mul U (.no U) U (.const U) (.tm U) (fun _ => by omega)) U ?_
   refine AWl.mv ?_
   refine AWl.mv ?_
   refine AWl.p (R_strIndex U (.no U) U (.tm U) (.tm U) Tryz.underlying9 (fun _ => ⟨by omega, (by rw [bs_get]; exact hb)⟩)) U ?_
   refine AWl.p (R_conv U (.no U) U (.tm U) (by rw [Tryz.underlying5]; rfl) Tryz.underlying3 (fun _ => (show IntKind.i64.wrap (b.toNat : Int) = (b.toNat : Int) by simp [IntKind.wrap, IntKind.bits]; omega))) U ?_
   refine AWl.p (R_add U (.no U) U (.tm U) (.tm U) (fun _ => by omega)) U ?_
   refine AWl.p (R_add U (.no U) U (.tm U) (.const U) (fun _ => by omega)) U ?_
   refine AWl.p (R_rem U (.no U) U (.tm U) (.const U) (fun _ => by omega)) U ?_
   refine AWl.av ?_
   refine AWl.nil ?_
   refine AW.le (σ' := ⟨_, [(0, _), (2, _), (3, _), (4, _)], []⟩) (Le.sub0 U ⟨U, U, U, U, Y⟩ trivial) ?_
   refine AW.region ?_
   refine AWl.mv ?_
   refine AWl.p (R_add U (.no U) U (.tm U) (.const U) (fun _ => by omega)) U ?_
   refine AWl.av ?_
   refine AWl.nil ?_
   repeat (with_reducible refine BlockQ.nor ?_)
   refine Round2.next (i + 1) (((257 * n + (b.toNat : Int) + 1) % 9973)) ⟨⟨by omega, by omega⟩, (by rw [hs, he]; omega)⟩ (by omega) (Le.sub0 rfl ⟨rfl, rfl, rfl, rfl, Y⟩ trivial)
 · skip
   try simp at h8
   refine AW.exit ?_
   refine AW.sr ?_
   refine AWl.mv ?_
   refine AWl.av ?_
   refine AWl.nil (AW.ret ?_)
   refine Res.v U U ?_
   (rw [he, List.take_of_length_le (by omega)])
theorem implFormatIntA (n : Int) (h0 : -9223372036854775808 ≤ n) (h1 : n ≤ 9223372036854775807) : FnT Tryz.prog 62 [.one (.v (.int .i64 n))] (.a (.one (.v (.string (bs (itoS n)))))) := by
 refine FnT.walk Tryz.func62 U (by kernel_rfl) Tryz.ntmps62 U fun hlen w0 => ?_
 try simp [cEdge, cGraph, cChange, cBatch, cHistory] at hlen
 refine AW.sr ?_
 refine AWl.ac ?_
 refine AWl.nil (AW.sr ?_)
 refine AWl.mv ?_
 refine AWl.p (R_callz (FnT.fr (strconvItoaA n h0 h1)) U (.no U) U (.cons (.tm U) U .nil)) U ?_
 refine AWl.av ?_
 refine AWl.nil (AW.ret ?_)
 refine Res.v U U ?_
 rfl
end Go.Proofs.YtbkhopfpejhnlaaGreatDoor
