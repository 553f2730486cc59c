/- The library's strings and numbers, for the walks: what leans on the library's own variables. -/
import Derived.Test.YtibjbmjgmfiecaaDoorB80xa
import Derived.Test.YtibjbmjgmfiecaaDoorB74xa
import Derived.Shelf.Strings.SplitShaped
import Derived.Shelf.Strings.Shaped
import Derived.Shelf.Strings.Prefix
import Derived.Shelf.Small.Strs
set_option linter.unusedVariables false
set_option linter.unusedSimpArgs false
set_option maxHeartbeats 1000000
set_option maxRecDepth 100000
namespace Go.Q
open Go.RowKit
end Go.Q
namespace Go.Proofs.YtibjbmjgmfiecaaDoor
open Go.RowKit Go.Q Go.D Go.Shelf
def Tryd.laysM171_ren:Go.Shelf.Ren:=⟨fun|171=>62|243=>82|246=>98|283=>116|284=>117|285=>118|286=>119|129=>129|317=>128|318=>130|319=>131|320=>132|337=>135|338=>136|n=>n,fun|3=>3|9=>9|2=>2|4=>4|171=>132|0=>0|53=>133|37=>82|5=>5|173=>136|212=>151|51=>138|20=>20|213=>152|46=>117|232=>163|233=>164|n=>n,fun|17=>3|18=>6|19=>7|n=>n⟩
theorem Tryd.laysM171:Go.Proofs.LaysM.n171 Tryd.prog Tryd.laysM171_ren:={
 mixed:=by kernel_rfl
 f129:=Tryd.func129.trans (congrArg some (by kernel_rfl))
 f171:=Tryd.func62.trans (congrArg some (by kernel_rfl))
 f243:=Tryd.func82.trans (congrArg some (by kernel_rfl))
 f246:=Tryd.func98.trans (congrArg some (by kernel_rfl))
 f283:=Tryd.func116.trans (congrArg some (by kernel_rfl))
 f284:=Tryd.func117.trans (congrArg some (by kernel_rfl))
 f285:=Tryd.func118.trans (congrArg some (by kernel_rfl))
 f286:=Tryd.func119.trans (congrArg some (by kernel_rfl))
 f317:=Tryd.func128.trans (congrArg some (by kernel_rfl))
 f318:=Tryd.func130.trans (congrArg some (by kernel_rfl))
 f319:=Tryd.func131.trans (congrArg some (by kernel_rfl))
 f320:=Tryd.func132.trans (congrArg some (by kernel_rfl))
 f337:=Tryd.func135.trans (congrArg some (by kernel_rfl))
 f338:=Tryd.func136.trans (congrArg some (by kernel_rfl))
 t0:=Tryd.underlying0
 a0:=Tryd.isAgg0
 z0:=Tryd.sizeOf0
 v0:=Tryd.zeroValue0
 t2:=Tryd.underlying2
 a2:=Tryd.isAgg2
 z2:=Tryd.sizeOf2
 v2:=Tryd.zeroValue2
 t3:=Tryd.underlying3
 a3:=Tryd.isAgg3
 z3:=Tryd.sizeOf3
 v3:=Tryd.zeroValue3
 t4:=Tryd.underlying4
 a4:=Tryd.isAgg4
 z4:=Tryd.sizeOf4
 v4:=Tryd.zeroValue4
 t5:=Tryd.underlying5
 a5:=Tryd.isAgg5
 z5:=Tryd.sizeOf5
 v5:=Tryd.zeroValue5
 t9:=Tryd.underlying9
 a9:=Tryd.isAgg9
 z9:=Tryd.sizeOf9
 v9:=Tryd.zeroValue9
 t20:=Tryd.underlying20
 a20:=Tryd.isAgg20
 z20:=Tryd.sizeOf20
 v20:=Tryd.zeroValue20
 t37:=Tryd.underlying82
 a37:=Tryd.isAgg82
 z37:=Tryd.sizeOf82
 v37:=Tryd.zeroValue82
 t46:=Tryd.underlying117
 a46:=Tryd.isAgg117
 z46:=Tryd.sizeOf117
 v46:=Tryd.zeroValue117
 t51:=Tryd.underlying138
 a51:=Tryd.isAgg138
 z51:=Tryd.sizeOf138
 v51:=Tryd.zeroValue138
 t53:=Tryd.underlying133
 a53:=Tryd.isAgg133
 z53:=Tryd.sizeOf133
 v53:=Tryd.zeroValue133
 t171:=Tryd.underlying132
 a171:=Tryd.isAgg132
 z171:=Tryd.sizeOf132
 v171:=Tryd.zeroValue132
 t173:=Tryd.underlying136
 a173:=Tryd.isAgg136
 z173:=Tryd.sizeOf136
 v173:=Tryd.zeroValue136
 t212:=Tryd.underlying151
 a212:=Tryd.isAgg151
 z212:=Tryd.sizeOf151
 v212:=Tryd.zeroValue151
 t213:=Tryd.underlying152
 a213:=Tryd.isAgg152
 z213:=Tryd.sizeOf152
 t232:=Tryd.underlying163
 a232:=Tryd.isAgg163
 z232:=Tryd.sizeOf163
 v232:=Tryd.zeroValue163
 t233:=Tryd.underlying164
 a233:=Tryd.isAgg164
 z233:=Tryd.sizeOf164
 v233:=Tryd.zeroValue164
 g17:=by kernel_rfl
 g18:=by kernel_rfl
 g19:=by kernel_rfl
 i0:=by kernel_rfl
 i2:=by kernel_rfl
 i3:=by kernel_rfl
 i4:=by kernel_rfl
 i5:=by kernel_rfl
 i9:=by kernel_rfl
 i20:=by kernel_rfl
 i37:=by kernel_rfl
 i46:=by kernel_rfl
 i51:=by kernel_rfl
 i53:=by kernel_rfl
 i171:=by kernel_rfl
 i173:=by kernel_rfl
 i212:=by kernel_rfl
 i232:=by kernel_rfl
 i233:=by kernel_rfl
 m17:=by kernel_rfl
 m18:=by kernel_rfl
 m19:=by kernel_rfl }
theorem strconvItoaA (n : Int) (h0 : -9223372036854775808 ≤ n) (h1 : n ≤ 9223372036854775807) : FnT Tryd.prog 62 [.one (.v (.int .i64 n))] (.a (.one (.v (.string (bs (itoS n)))))) := by
  refine ⟨⟨_, Tryd.func62, by kernel_rfl, by kernel_rfl⟩, fun w vs F hG hv => ?_⟩
  obtain ⟨v1, vr, G1, G2, rfl, g1, ⟨rfl, rfl⟩, rfl⟩ := hv
  simp only [V0r, C] at g1
  obtain ⟨rfl, rfl, _⟩ := g1
  have htab : Lib.TabIs Tryd.prog w "internal/strconv.uint64pow10" .u64 Lib.pow10Tab := by
    obtain ⟨w0, ⟨_, h2⟩, h3⟩ := hG.ex
    have hg : Tryd.prog.globalNamed "internal/strconv.uint64pow10" = some ((Tryd.prog.globalNamed "internal/strconv.uint64pow10").getD 0) := by kernel_rfl
    have hl : (Tryd.prog.globalNamed "internal/strconv.uint64pow10").getD 0 < Tryd.prog.low := Nat.lt_trans (of_decide_eq_true (by kernel_rfl)) low_lt
    unfold Lib.TabIs World.var? at h2 ⊢
    rw [hg] at h2 ⊢
    simp only [Option.bind_some] at h2 ⊢
    rw [h3 _ hl]; exact h2
  have hcon := Any.strconv_Itoa Tryd.laysM171 n h0 h1 w htab
  change Calls Tryd.prog 62 _ _ _ at hcon
  refine hcon.mono ?_
  rintro e w' ⟨rfl, k, os, rfl⟩
  refine ⟨_, [], rfl, ?_, List.nodup_nil, by simp, ⟨rfl, rfl, rfl, (by show w.heap.size ≤ (w.heap ++ os).size; rw [Array.size_append]; omega), fun j hj => (by show (w.heap ++ os)[j]? = w.heap[j]?; exact Array.getElem?_append_left hj)⟩⟩
  simp [Vr, V0r, C]
  exact ⟨rfl, rfl⟩
end Go.Proofs.YtibjbmjgmfiecaaDoor
