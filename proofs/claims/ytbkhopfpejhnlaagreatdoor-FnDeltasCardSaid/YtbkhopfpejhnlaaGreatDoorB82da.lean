import Derived.Test.YtbkhopfpejhnlaaGreatDoorB74da
import Derived.Lib.SplitLaws
import Derived.Lib.Atoi
import Derived.Shelf.Strings.SplitShaped
import Derived.Shelf.Strings.Shaped
import Derived.Shelf.Strings.Prefix
import Derived.Shelf.Small.Strs
import Derived.Test.YtbkhopfpejhnlaaGreatDoorB77da
set_option linter.unusedVariables false
set_option linter.unusedSimpArgs false
set_option maxHeartbeats 1000000
set_option maxRecDepth 100000
namespace Go.Q
open Go.D
def splitL (c : UInt8) : List UInt8 → List (List UInt8)
 | [] => [[]]
 | b :: l => if b = c then [] :: splitL c l else (b :: (splitL c l).headD []) :: (splitL c l).tail
theorem splitL_ne (c : UInt8) (l : List UInt8) : splitL c l ≠ [] := by
 cases l with
 | nil => simp [splitL]
 | cons b l => unfold splitL; split <;> simp
theorem splitL_no {c : UInt8} : ∀ {l : List UInt8}, c ∉ l → splitL c l = [l]
 | [], _ => rfl
 | b :: l, h => by
  unfold splitL
  rw [if_neg (fun e => h (by simp [e])), splitL_no fun hm => h (by simp [hm])]
  rfl
theorem splitL_hit {c : UInt8} {r : List UInt8} : ∀ {l : List UInt8}, c ∉ l → splitL c (l ++ c :: r) = l :: splitL c r
 | [], _ => by rw [List.nil_append, splitL, if_pos rfl]
 | b :: l, h => by
  rw [List.cons_append, splitL, if_neg (fun e => h (by simp [e])), splitL_hit fun hm => h (by simp [hm])]
  rfl
theorem splitL_len (c : UInt8) : ∀ l : List UInt8, (splitL c l).length = l.count c + 1
 | [] => rfl
 | b :: l => by
  unfold splitL
  have ih := splitL_len c l
  split
  · rename_i h; subst h; rw [List.length_cons, ih, List.count_cons_self]
  · rename_i h
    rw [List.length_cons, List.length_tail, ih, List.count_cons_of_ne (by simpa using h)]; omega
theorem splitL_join (c : UInt8) : ∀ l : List UInt8, joinL [c] (splitL c l) = l
 | [] => rfl
 | b :: l => by
  have ih := splitL_join c l
  unfold splitL
  obtain ⟨x, r, hx⟩ : ∃ x r, splitL c l = x :: r := by
   cases h : splitL c l with
   | nil => exact absurd h (splitL_ne c l)
   | cons x r => exact ⟨x, r, rfl⟩
  rw [hx] at ih ⊢
  unfold joinL at ih ⊢
  rw [Lib.join_cons] at ih
  split
  · rename_i h; subst h
    rw [Lib.join_cons, ← ih]
    simp [Lib.joinTail]
  · rw [Lib.join_cons]
    simp only [List.headD_cons, List.tail_cons, List.cons_append]
    rw [ih]
theorem split_eq (c : UInt8) : ∀ (k : Nat) (s : ByteArray), s.data.toList.count c = k → Lib.splitB (bs [c]) 0 k s = (splitL c s.data.toList).map bs := by
 intro k
 induction k with
 | zero =>
  intro s h
  rw [Lib.splitB_zero, splitL_no (List.count_eq_zero.1 h)]
  simp [bs]
 | succ k ih =>
  intro s h
  have hmem : c ∈ s.data.toList := List.count_pos_iff.1 (by omega)
  rcases Lib.indexB_cases s (bs [c]) with h1 | ⟨i, h1, h2⟩
  · exfalso
    have h3 : Lib.index s.data.toList [c] = -1 := by
     have e : Lib.indexB s (bs [c]) = Lib.index s.data.toList (bs [c]).data.toList := rfl
     rw [bs_list] at e; rw [← e]; exact h1
    rw [Lib.index_one] at h3
    obtain ⟨j, hj⟩ := List.getElem?_of_mem hmem
    exact Lib.indexByte_none h3 j hj
  · have h3 : Lib.index s.data.toList [c] = i := by
     have e : Lib.indexB s (bs [c]) = Lib.index s.data.toList (bs [c]).data.toList := rfl
     rw [bs_list] at e; rw [← e]; exact h1
    rw [Lib.index_one] at h3
    obtain ⟨h4, h5⟩ := Lib.indexByte_some h3
    have hi := (List.getElem?_eq_some_iff.1 h4).1
    have hsp : s.data.toList = s.data.toList.take i ++ c :: s.data.toList.drop (i + 1) := by
     conv => lhs; rw [← List.take_append_drop i s.data.toList]
     rw [List.drop_eq_getElem_cons hi, (List.getElem?_eq_some_iff.1 h4).2]
    have hno : c ∉ s.data.toList.take i := fun hm => by
     obtain ⟨j, hj⟩ := List.getElem?_of_mem hm
     have hj2 := (List.getElem?_eq_some_iff.1 hj).1
     rw [List.length_take] at hj2
     rw [List.getElem?_take_of_lt (by omega)] at hj
     exact h5 j (by omega) hj
    rw [Lib.splitB_hit _ _ _ _ _ h1, Nat.add_zero, bs_size, List.length_singleton]
    have e1 : s.extract 0 i = bs (s.data.toList.take i) := by
     apply ByteArray.ext
     rw [ByteArray.data_extract]
     apply Array.ext'
     simp [bs]
    have e2 : (s.extract (i + 1) s.size).data.toList = s.data.toList.drop (i + 1) := by
     rw [ByteArray.data_extract, Array.toList_extract, List.extract_eq_take_drop]
     rw [List.take_of_length_le (by rw [List.length_drop, Array.length_toList]; exact Nat.le_refl _)]
    have hc : (s.data.toList.drop (i + 1)).count c = k := by
     rw [hsp, List.count_append, List.count_cons_self, List.count_eq_zero.2 hno] at h
     omega
    rw [ih _ (by rw [e2]; exact hc), e2, e1]
    conv => rhs; rw [hsp, splitL_hit hno]
    rfl
theorem split_joinL {c : UInt8} : ∀ (xs : List (List UInt8)), xs ≠ [] → (∀ x ∈ xs, c ∉ x) → splitL c (joinL [c] xs) = xs := by
 intro xs
 induction xs with
 | nil => intro h _; exact absurd rfl h
 | cons x r ih =>
  intro _ h
  cases r with
  | nil => unfold joinL; rw [Lib.join_one]; exact splitL_no (h x (by simp))
  | cons y r =>
   have e : joinL [c] (x :: y :: r) = x ++ c :: joinL [c] (y :: r) := by
    unfold joinL
    rw [Lib.join_cons, Lib.join_cons]
    simp [Lib.joinTail]
   rw [e, splitL_hit (h x (by simp)), ih (by simp) fun z hz => h z (by simp [hz])]
theorem bs_get (l : List UInt8) (n : Nat) : (bs l)[n]? = l[n]? := by
 show (bs l).data[n]? = l[n]?
 simp [bs]
theorem bs_extract (l : List UInt8) (n m : Nat) : (bs l).extract n m = bs ((l.take m).drop n) := by
 apply ByteArray.ext
 rw [ByteArray.data_extract]
 apply Array.ext'
 rw [Array.toList_extract, List.extract_eq_take_drop, bs_list]
 simp only [bs]
 rw [List.drop_take]
theorem bs_of (s : ByteArray) : bs s.data.toList = s := by
 apply ByteArray.ext
 simp [bs]
end Go.Q
set_option maxHeartbeats 1000000
set_option maxRecDepth 100000
namespace Go.Q
open Go.RowKit
theorem V0s_vs {o : Bool} {w : World} : ∀ (xs : List Value), xs.all Value.oneCell' = true → V0s o w (xs.map fun x => .one (.v x)) xs []
 | [], _ => ⟨rfl, rfl⟩
 | x :: xs, h => by
  rw [List.all_cons, Bool.and_eq_true] at h
  exact ⟨x, xs, [], [], rfl, by unfold V0r C; exact ⟨rfl, rfl, h.1⟩, V0s_vs xs h.2, rfl⟩
end Go.Q
namespace Go.Proofs.YtbkhopfpejhnlaaGreatDoor
open Go.RowKit Go.Q Go.D Go.Shelf
def Tryz.laysM171_ren:Go.Shelf.Ren:=⟨fun|171=>91|243=>119|246=>140|283=>164|284=>165|285=>166|286=>167|129=>160|317=>177|318=>178|319=>179|320=>180|337=>184|338=>185|n=>n,fun|3=>3|9=>9|2=>2|4=>4|171=>185|0=>0|53=>179|37=>22|5=>5|173=>187|212=>202|51=>177|20=>20|213=>203|46=>150|232=>216|233=>217|n=>n,fun|17=>3|18=>6|19=>7|n=>n⟩
theorem Tryz.laysM171:Go.Proofs.LaysM.n171 Tryz.prog Tryz.laysM171_ren:={
 mixed:=by kernel_rfl
 f129:=Tryz.func160.trans (congrArg some (by kernel_rfl))
 f171:=Tryz.func91.trans (congrArg some (by kernel_rfl))
 f243:=Tryz.func119.trans (congrArg some (by kernel_rfl))
 f246:=Tryz.func140.trans (congrArg some (by kernel_rfl))
 f283:=Tryz.func164.trans (congrArg some (by kernel_rfl))
 f284:=Tryz.func165.trans (congrArg some (by kernel_rfl))
 f285:=Tryz.func166.trans (congrArg some (by kernel_rfl))
 f286:=Tryz.func167.trans (congrArg some (by kernel_rfl))
 f317:=Tryz.func177.trans (congrArg some (by kernel_rfl))
 f318:=Tryz.func178.trans (congrArg some (by kernel_rfl))
 f319:=Tryz.func179.trans (congrArg some (by kernel_rfl))
 f320:=Tryz.func180.trans (congrArg some (by kernel_rfl))
 f337:=Tryz.func184.trans (congrArg some (by kernel_rfl))
 f338:=Tryz.func185.trans (congrArg some (by kernel_rfl))
 t0:=Tryz.underlying0
 a0:=Tryz.isAgg0
 z0:=Tryz.sizeOf0
 v0:=Tryz.zeroValue0
 t2:=Tryz.underlying2
 a2:=Tryz.isAgg2
 z2:=Tryz.sizeOf2
 v2:=Tryz.zeroValue2
 t3:=Tryz.underlying3
 a3:=Tryz.isAgg3
 z3:=Tryz.sizeOf3
 v3:=Tryz.zeroValue3
 t4:=Tryz.underlying4
 a4:=Tryz.isAgg4
 z4:=Tryz.sizeOf4
 v4:=Tryz.zeroValue4
 t5:=Tryz.underlying5
 a5:=Tryz.isAgg5
 z5:=Tryz.sizeOf5
 v5:=Tryz.zeroValue5
 t9:=Tryz.underlying9
 a9:=Tryz.isAgg9
 z9:=Tryz.sizeOf9
 v9:=Tryz.zeroValue9
 t20:=Tryz.underlying20
 a20:=Tryz.isAgg20
 z20:=Tryz.sizeOf20
 v20:=Tryz.zeroValue20
 t37:=Tryz.underlying22
 a37:=Tryz.isAgg22
 z37:=Tryz.sizeOf22
 v37:=Tryz.zeroValue22
 t46:=Tryz.underlying150
 a46:=Tryz.isAgg150
 z46:=Tryz.sizeOf150
 v46:=Tryz.zeroValue150
 t51:=Tryz.underlying177
 a51:=Tryz.isAgg177
 z51:=Tryz.sizeOf177
 v51:=Tryz.zeroValue177
 t53:=Tryz.underlying179
 a53:=Tryz.isAgg179
 z53:=Tryz.sizeOf179
 v53:=Tryz.zeroValue179
 t171:=Tryz.underlying185
 a171:=Tryz.isAgg185
 z171:=Tryz.sizeOf185
 v171:=Tryz.zeroValue185
 t173:=Tryz.underlying187
 a173:=Tryz.isAgg187
 z173:=Tryz.sizeOf187
 v173:=Tryz.zeroValue187
 t212:=Tryz.underlying202
 a212:=Tryz.isAgg202
 z212:=Tryz.sizeOf202
 v212:=Tryz.zeroValue202
 t213:=Tryz.underlying203
 a213:=Tryz.isAgg203
 z213:=Tryz.sizeOf203
 t232:=Tryz.underlying216
 a232:=Tryz.isAgg216
 z232:=Tryz.sizeOf216
 v232:=Tryz.zeroValue216
 t233:=Tryz.underlying217
 a233:=Tryz.isAgg217
 z233:=Tryz.sizeOf217
 v233:=Tryz.zeroValue217
 g17:=by kernel_rfl
 g18:=by kernel_rfl
 g19:=by kernel_rfl
 i0:=by kernel_rfl
 i2:=by kernel_rfl
 i3:=by kernel_rfl
 i4:=by kernel_rfl
 i5:=by kernel_rfl
 i9:=by kernel_rfl
 i20:=by kernel_rfl
 i37:=by kernel_rfl
 i46:=by kernel_rfl
 i51:=by kernel_rfl
 i53:=by kernel_rfl
 i171:=by kernel_rfl
 i173:=by kernel_rfl
 i212:=by kernel_rfl
 i232:=by kernel_rfl
 i233:=by kernel_rfl
 m17:=by kernel_rfl
 m18:=by kernel_rfl
 m19:=by kernel_rfl }
def Tryz.laysM146_ren:Go.Shelf.Ren:=⟨fun|146=>63|221=>92|268=>120|138=>121|143=>122|195=>141|197=>142|218=>143|219=>114|260=>168|217=>102|225=>136|224=>137|267=>138|266=>130|314=>163|n=>n,fun|9=>9|31=>87|3=>3|4=>4|0=>0|105=>160|21=>21|5=>5|46=>150|119=>204|139=>207|138=>206|146=>183|51=>177|n=>n,fun|1=>0|3=>4|4=>5|n=>n⟩
theorem Tryz.laysM146:Go.Proofs.LaysM.n146 Tryz.prog Tryz.laysM146_ren:={
 mixed:=by kernel_rfl
 f138:=Tryz.func121.trans (congrArg some (by kernel_rfl))
 f143:=Tryz.func122.trans (congrArg some (by kernel_rfl))
 f146:=Tryz.func63.trans (congrArg some (by kernel_rfl))
 f195:=Tryz.func141.trans (congrArg some (by kernel_rfl))
 f197:=Tryz.func142.trans (congrArg some (by kernel_rfl))
 f217:=Tryz.func102.trans (congrArg some (by kernel_rfl))
 f218:=Tryz.func143.trans (congrArg some (by kernel_rfl))
 f219:=Tryz.func114.trans (congrArg some (by kernel_rfl))
 f221:=Tryz.func92.trans (congrArg some (by kernel_rfl))
 f224:=Tryz.func137.trans (congrArg some (by kernel_rfl))
 f225:=Tryz.func136.trans (congrArg some (by kernel_rfl))
 f260:=Tryz.func168.trans (congrArg some (by kernel_rfl))
 f266:=Tryz.func130.trans (congrArg some (by kernel_rfl))
 f267:=Tryz.func138.trans (congrArg some (by kernel_rfl))
 f268:=Tryz.func120.trans (congrArg some (by kernel_rfl))
 f314:=Tryz.func163.trans (congrArg some (by kernel_rfl))
 t0:=Tryz.underlying0
 a0:=Tryz.isAgg0
 z0:=Tryz.sizeOf0
 v0:=Tryz.zeroValue0
 t3:=Tryz.underlying3
 a3:=Tryz.isAgg3
 z3:=Tryz.sizeOf3
 v3:=Tryz.zeroValue3
 t4:=Tryz.underlying4
 a4:=Tryz.isAgg4
 z4:=Tryz.sizeOf4
 v4:=Tryz.zeroValue4
 t5:=Tryz.underlying5
 a5:=Tryz.isAgg5
 z5:=Tryz.sizeOf5
 v5:=Tryz.zeroValue5
 t9:=Tryz.underlying9
 a9:=Tryz.isAgg9
 z9:=Tryz.sizeOf9
 v9:=Tryz.zeroValue9
 t21:=Tryz.underlying21
 a21:=Tryz.isAgg21
 z21:=Tryz.sizeOf21
 v21:=Tryz.zeroValue21
 t31:=Tryz.underlying87
 a31:=Tryz.isAgg87
 z31:=Tryz.sizeOf87
 v31:=Tryz.zeroValue87
 t46:=Tryz.underlying150
 a46:=Tryz.isAgg150
 z46:=Tryz.sizeOf150
 v46:=Tryz.zeroValue150
 t51:=Tryz.underlying177
 a51:=Tryz.isAgg177
 z51:=Tryz.sizeOf177
 v51:=Tryz.zeroValue177
 t105:=Tryz.underlying160
 a105:=Tryz.isAgg160
 z105:=Tryz.sizeOf160
 v105:=Tryz.zeroValue160
 t119:=Tryz.underlying204
 a119:=Tryz.isAgg204
 z119:=Tryz.sizeOf204
 t138:=Tryz.underlying206
 a138:=Tryz.isAgg206
 z138:=Tryz.sizeOf206
 v138:=Tryz.zeroValue206
 t139:=Tryz.underlying207
 a139:=Tryz.isAgg207
 z139:=Tryz.sizeOf207
 v139:=Tryz.zeroValue207
 t146:=Tryz.underlying183
 a146:=Tryz.isAgg183
 z146:=Tryz.sizeOf183
 v146:=Tryz.zeroValue183
 g1:=by kernel_rfl
 g3:=by kernel_rfl
 g4:=by kernel_rfl
 i0:=by kernel_rfl
 i3:=by kernel_rfl
 i4:=by kernel_rfl
 i5:=by kernel_rfl
 i9:=by kernel_rfl
 i21:=by kernel_rfl
 i31:=by kernel_rfl
 i46:=by kernel_rfl
 i51:=by kernel_rfl
 i105:=by kernel_rfl
 i138:=by kernel_rfl
 i139:=by kernel_rfl
 i146:=by kernel_rfl
 m1:=by kernel_rfl
 s1_3:=fun w h=>Go.Proofs.cell_of_shapedOpen_int (zero:=#[.int .i64 0]) (t:=3) h (of_decide_eq_true (by kernel_rfl)) (by kernel_rfl) rfl (by kernel_rfl) (by kernel_rfl) Tryz.underlying3
 m3:=by kernel_rfl
 m4:=by kernel_rfl }
theorem stringsSplit (s : ByteArray) (c : UInt8) (hs : s.size < 4294967281) : FnT Tryz.prog 63 [.one (.v (.string s)), .one (.v (.string (bs [c])))] (.a (.one (.sl 1 ((splitL c s.data.toList).map cStr)))) := by
 refine ⟨⟨_, Tryz.func63, by kernel_rfl, by kernel_rfl⟩, fun w vs F hG hv => ?_⟩
 obtain ⟨v1, vr, G1, G2, rfl, g1, ⟨v2, vr2, G3, G4, rfl, g2, ⟨rfl, rfl⟩, rfl⟩, rfl⟩ := hv
 simp only [V0r, C] at g1 g2
 obtain ⟨rfl, rfl, _⟩ := g1
 obtain ⟨rfl, rfl, _⟩ := g2
 have hgl : Tryz.laysM146_ren.g 1 < Tryz.prog.low := Nat.lt_trans (of_decide_eq_true (by kernel_rfl)) low_lt
 obtain ⟨m, hm⟩ : ∃ m, w.cell? ⟨Tryz.laysM146_ren.g 1, 0, none⟩ = some (.int .i64 m) := by
  obtain ⟨w0, ⟨h2, _⟩, h3⟩ := hG.ex
  obtain ⟨m, hm⟩ := Tryz.laysM146.s1_3 w0 h2
  exact ⟨m, (World.cell?_of_block (a := ⟨Tryz.laysM146_ren.g 1, 0, none⟩) (h3 _ hgl)).trans hm⟩
 have hcon := Any.strings_Split { Tryz.laysM146 with } Tryz.laysM146.i9 s (bs [c]) m w hs hm (by rw [bs_size]; simp)
 change Calls Tryz.prog 63 _ _ _ at hcon
 have hcnt : Lib.countB s (bs [c]) = s.data.toList.count c := by
  have e : Lib.countB s (bs [c]) = Lib.count s.data.toList (bs [c]).data.toList := rfl
  rw [e, bs_list, Lib.count_one]
 rw [hcnt, split_eq c _ s rfl] at hcon
 have hlen := splitL_len c s.data.toList
 have hle : s.data.toList.count c ≤ s.size := by
  have := List.count_le_length (a := c) (l := s.data.toList)
  rw [Array.length_toList] at this; exact this
 refine hcon.mono ?_
 rintro e w' ⟨rfl, rfl⟩
 have hb : (w.alloc (.cells (((splitL c s.data.toList).map bs).map Value.string).toArray (Tryz.laysM146_ren.t 9))).heap[w.heap.size]? = some (.cells (((splitL c s.data.toList).map bs).map Value.string).toArray (Tryz.laysM146_ren.t 9)) := by
  show (w.heap.push _)[w.heap.size]? = _
  rw [Array.getElem?_push, if_pos rfl]
 have key : ∀ (xs pre : List (List UInt8)) (all : List Value) (W : World) (e : TypeId), W.heap[w.heap.size]? = some (.cells all.toArray e) → all = (pre ++ xs).map (fun x => Value.string (bs x)) → Rws true W w.heap.size 1 pre.length (xs.map cStr) [] := by
  intro xs
  induction xs with
  | nil => intro pre all W e h1 h2; simp only [List.map_nil, Rws]
  | cons x xs ih =>
   intro pre all W e h1 h2
   have := ih (pre ++ [x]) all W e h1 (by rw [h2]; simp)
   rw [List.length_append, List.length_singleton] at this
   rw [List.map_cons]
   unfold Rws
   refine ⟨[], [], rfl, ?_, this, rfl⟩
   unfold cStr Ms
   refine ⟨_, [], [], ?_, by unfold C; exact ⟨rfl, rfl, rfl⟩, by unfold Ms; rfl, rfl⟩
   simp [World.cell?, h1, h2]
 refine ⟨_, [w.heap.size], rfl, ?_, by simp, fun b hb' => ?_, Below.alloc (Below.refl _ _) (Nat.le_refl _) _⟩
 · show C true _ (.sl 1 _) _ _
   unfold C
   refine ⟨_, _, _, rfl, by rw [List.length_map, hlen], Nat.le_refl _, by (show _ ≤ maxLen); (unfold maxLen); omega, .inr ⟨_, 0, [], rfl, rfl, ?_, fun _ => ⟨rfl, _, _, hb, by simp [hlen]⟩, ?_⟩⟩
   · show w.heap.size < (w.heap.push _).size
     simp
   · exact key _ [] _ _ _ hb (by simp)
 · rw [List.mem_singleton] at hb'
   subst hb'
   refine ⟨Nat.le_refl _, ?_⟩
   exact ⟨_, _, hb⟩
def Tryz.laysM145_ren:Go.Shelf.Ren:=⟨fun|145=>53|220=>84|219=>114|217=>102|225=>136|224=>137|267=>138|266=>130|314=>163|n=>n,fun|9=>9|4=>4|59=>75|3=>3|5=>5|46=>150|146=>183|51=>177|n=>n,fun|1=>0|n=>n⟩
theorem Tryz.laysM145:Go.Proofs.LaysM.n145 Tryz.prog Tryz.laysM145_ren:={
 mixed:=by kernel_rfl
 f145:=Tryz.func53.trans (congrArg some (by kernel_rfl))
 f217:=Tryz.func102.trans (congrArg some (by kernel_rfl))
 f219:=Tryz.func114.trans (congrArg some (by kernel_rfl))
 f220:=Tryz.func84.trans (congrArg some (by kernel_rfl))
 f224:=Tryz.func137.trans (congrArg some (by kernel_rfl))
 f225:=Tryz.func136.trans (congrArg some (by kernel_rfl))
 f266:=Tryz.func130.trans (congrArg some (by kernel_rfl))
 f267:=Tryz.func138.trans (congrArg some (by kernel_rfl))
 f314:=Tryz.func163.trans (congrArg some (by kernel_rfl))
 t3:=Tryz.underlying3
 a3:=Tryz.isAgg3
 z3:=Tryz.sizeOf3
 v3:=Tryz.zeroValue3
 t4:=Tryz.underlying4
 a4:=Tryz.isAgg4
 z4:=Tryz.sizeOf4
 v4:=Tryz.zeroValue4
 t5:=Tryz.underlying5
 a5:=Tryz.isAgg5
 z5:=Tryz.sizeOf5
 v5:=Tryz.zeroValue5
 t9:=Tryz.underlying9
 a9:=Tryz.isAgg9
 z9:=Tryz.sizeOf9
 v9:=Tryz.zeroValue9
 t46:=Tryz.underlying150
 a46:=Tryz.isAgg150
 z46:=Tryz.sizeOf150
 v46:=Tryz.zeroValue150
 t51:=Tryz.underlying177
 a51:=Tryz.isAgg177
 z51:=Tryz.sizeOf177
 v51:=Tryz.zeroValue177
 t59:=Tryz.underlying75
 a59:=Tryz.isAgg75
 z59:=Tryz.sizeOf75
 v59:=Tryz.zeroValue75
 t146:=Tryz.underlying183
 a146:=Tryz.isAgg183
 z146:=Tryz.sizeOf183
 v146:=Tryz.zeroValue183
 g1:=by kernel_rfl
 i3:=by kernel_rfl
 i4:=by kernel_rfl
 i5:=by kernel_rfl
 i9:=by kernel_rfl
 i46:=by kernel_rfl
 i51:=by kernel_rfl
 i59:=by kernel_rfl
 i146:=by kernel_rfl
 m1:=by kernel_rfl
 s1_3:=fun w h=>Go.Proofs.cell_of_shapedOpen_int (zero:=#[.int .i64 0]) (t:=3) h (of_decide_eq_true (by kernel_rfl)) (by kernel_rfl) rfl (by kernel_rfl) (by kernel_rfl) Tryz.underlying3 }
theorem stringsCut (s : ByteArray) (sep : List UInt8) (hs : s.size < 4294967281) : FnT Tryz.prog 53 [.one (.v (.string s)), .one (.v (.string (bs sep)))] (.tup [.one (.v (.string (bs (Lib.cut s.data.toList sep).1))), .one (.v (.string (bs (Lib.cut s.data.toList sep).2.1))), .one (.v (.bool (Lib.cut s.data.toList sep).2.2))]) := by
 refine ⟨⟨_, Tryz.func53, by kernel_rfl, by kernel_rfl⟩, fun w vs F hG hv => ?_⟩
 obtain ⟨v1, vr, G1, G2, rfl, g1, ⟨v2, vr2, G3, G4, rfl, g2, ⟨rfl, rfl⟩, rfl⟩, rfl⟩ := hv
 simp only [V0r, C] at g1 g2
 obtain ⟨rfl, rfl, _⟩ := g1
 obtain ⟨rfl, rfl, _⟩ := g2
 have hgl : Tryz.laysM145_ren.g 1 < Tryz.prog.low := Nat.lt_trans (of_decide_eq_true (by kernel_rfl)) low_lt
 obtain ⟨m, hm⟩ : ∃ m, w.cell? ⟨Tryz.laysM145_ren.g 1, 0, none⟩ = some (.int .i64 m) := by
  obtain ⟨w0, ⟨h2, _⟩, h3⟩ := hG.ex
  obtain ⟨m, hm⟩ := Tryz.laysM145.s1_3 w0 h2
  exact ⟨m, (World.cell?_of_block (a := ⟨Tryz.laysM145_ren.g 1, 0, none⟩) (h3 _ hgl)).trans hm⟩
 have hcon := Any.strings_Cut { Tryz.laysM145 with } s (bs sep) m w hs hm
 change Calls Tryz.prog 53 _ _ _ at hcon
 rw [bs_list] at hcon
 refine hcon.mono ?_
 rintro e w' ⟨rfl, n, rfl⟩
 refine ⟨_, [], rfl, ?_, List.nodup_nil, by simp, ⟨rfl, rfl, rfl, Nat.le_refl _, fun _ _ => rfl⟩⟩
 exact ⟨_, rfl, V0s_vs [.string (bs (Lib.cut s.data.toList sep).1), .string (bs (Lib.cut s.data.toList sep).2.1), .bool (Lib.cut s.data.toList sep).2.2] rfl⟩
def Tryz.lays99_ren:Go.Shelf.Ren:=⟨fun|99=>54|206=>85|n=>n,fun|9=>9|4=>4|3=>3|n=>n,fun|n=>n⟩
theorem Tryz.lays99:Go.Proofs.Lays.n99 Tryz.prog Tryz.lays99_ren:={
 mixed:=by kernel_rfl
 f99:=Tryz.func54.trans (congrArg some (by kernel_rfl))
 f206:=Tryz.func85.trans (congrArg some (by kernel_rfl))
 t3:=Tryz.underlying3
 a3:=Tryz.isAgg3
 z3:=Tryz.sizeOf3
 v3:=Tryz.zeroValue3
 t4:=Tryz.underlying4
 a4:=Tryz.isAgg4
 z4:=Tryz.sizeOf4
 v4:=Tryz.zeroValue4
 t9:=Tryz.underlying9
 a9:=Tryz.isAgg9
 z9:=Tryz.sizeOf9
 v9:=Tryz.zeroValue9 }
theorem stringsHasPrefix (s : ByteArray) (p : List UInt8) : FnT Tryz.prog 54 [.one (.v (.string s)), .one (.v (.string (bs p)))] (.a (.one (.v (.bool (Lib.hasPrefix s.data.toList p))))) := by
 refine ⟨⟨_, Tryz.func54, by kernel_rfl, by kernel_rfl⟩, fun w vs F hG hv => ?_⟩
 obtain ⟨v1, vr, G1, G2, rfl, g1, ⟨v2, vr2, G3, G4, rfl, g2, ⟨rfl, rfl⟩, rfl⟩, rfl⟩ := hv
 simp only [V0r, C] at g1 g2
 obtain ⟨rfl, rfl, _⟩ := g1
 obtain ⟨rfl, rfl, _⟩ := g2
 have hcon := Any.strings_HasPrefix Tryz.lays99 s (bs p) w
 change Calls Tryz.prog 54 _ _ _ at hcon
 rw [bs_list] at hcon
 refine hcon.mono ?_
 rintro e w' ⟨rfl, rfl⟩
 refine ⟨_, [], rfl, ?_, List.nodup_nil, by simp, Ext.refl _⟩
 simp [Vr, V0r, C]
 rfl
end Go.Proofs.YtbkhopfpejhnlaaGreatDoor
set_option maxHeartbeats 1000000
set_option maxRecDepth 100000
namespace Go.Proofs.YtbkhopfpejhnlaaGreatDoor
open Go.RowKit Go.Q Go.D
end Go.Proofs.YtbkhopfpejhnlaaGreatDoor
