/- strings.Join, strconv.Itoa of small numbers, for the walks. -/
import Derived.Test.YtibjbmjgmfiecaaDoorB75xb
import Derived.Shelf.Abstract
import Derived.Shelf.Strings.OnBuilder
import Derived.Shelf.Strconv.Itoa3
import Derived.Ground.NamesProg
set_option linter.unusedVariables false
set_option linter.unusedSimpArgs false
set_option maxHeartbeats 1000000
set_option maxRecDepth 100000
namespace Go.Proofs.YtibjbmjgmfiecaaDoor
open Go.RowKit Go.Q Go.D Go.Shelf
def Tryd.lays171_ren:Go.Shelf.Ren:=⟨fun|171=>62|243=>82|246=>98|283=>116|284=>117|285=>118|286=>119|129=>129|317=>128|318=>130|319=>131|320=>132|337=>135|338=>136|n=>n,fun|3=>3|9=>9|2=>2|4=>4|171=>132|0=>0|53=>133|37=>82|5=>5|173=>136|212=>151|51=>138|20=>20|213=>152|46=>117|232=>163|233=>164|n=>n,fun|17=>3|18=>6|19=>7|n=>n⟩
theorem Tryd.lays171:Go.Proofs.Lays.n171 Tryd.prog Tryd.lays171_ren:={
 mixed:=by kernel_rfl
 f129:=Tryd.func129.trans (congrArg some (by kernel_rfl))
 f171:=Tryd.func62.trans (congrArg some (by kernel_rfl))
 f243:=Tryd.func82.trans (congrArg some (by kernel_rfl))
 f246:=Tryd.func98.trans (congrArg some (by kernel_rfl))
 f283:=Tryd.func116.trans (congrArg some (by kernel_rfl))
 f284:=Tryd.func117.trans (congrArg some (by kernel_rfl))
 f285:=Tryd.func118.trans (congrArg some (by kernel_rfl))
 f286:=Tryd.func119.trans (congrArg some (by kernel_rfl))
 f317:=Tryd.func128.trans (congrArg some (by kernel_rfl))
 f318:=Tryd.func130.trans (congrArg some (by kernel_rfl))
 f319:=Tryd.func131.trans (congrArg some (by kernel_rfl))
 f320:=Tryd.func132.trans (congrArg some (by kernel_rfl))
 f337:=Tryd.func135.trans (congrArg some (by kernel_rfl))
 f338:=Tryd.func136.trans (congrArg some (by kernel_rfl))
 t0:=Tryd.underlying0
 a0:=Tryd.isAgg0
 z0:=Tryd.sizeOf0
 v0:=Tryd.zeroValue0
 t2:=Tryd.underlying2
 a2:=Tryd.isAgg2
 z2:=Tryd.sizeOf2
 v2:=Tryd.zeroValue2
 t3:=Tryd.underlying3
 a3:=Tryd.isAgg3
 z3:=Tryd.sizeOf3
 v3:=Tryd.zeroValue3
 t4:=Tryd.underlying4
 a4:=Tryd.isAgg4
 z4:=Tryd.sizeOf4
 v4:=Tryd.zeroValue4
 t5:=Tryd.underlying5
 a5:=Tryd.isAgg5
 z5:=Tryd.sizeOf5
 v5:=Tryd.zeroValue5
 t9:=Tryd.underlying9
 a9:=Tryd.isAgg9
 z9:=Tryd.sizeOf9
 v9:=Tryd.zeroValue9
 t20:=Tryd.underlying20
 a20:=Tryd.isAgg20
 z20:=Tryd.sizeOf20
 v20:=Tryd.zeroValue20
 t37:=Tryd.underlying82
 a37:=Tryd.isAgg82
 z37:=Tryd.sizeOf82
 v37:=Tryd.zeroValue82
 t46:=Tryd.underlying117
 a46:=Tryd.isAgg117
 z46:=Tryd.sizeOf117
 v46:=Tryd.zeroValue117
 t51:=Tryd.underlying138
 a51:=Tryd.isAgg138
 z51:=Tryd.sizeOf138
 v51:=Tryd.zeroValue138
 t53:=Tryd.underlying133
 a53:=Tryd.isAgg133
 z53:=Tryd.sizeOf133
 v53:=Tryd.zeroValue133
 t171:=Tryd.underlying132
 a171:=Tryd.isAgg132
 z171:=Tryd.sizeOf132
 v171:=Tryd.zeroValue132
 t173:=Tryd.underlying136
 a173:=Tryd.isAgg136
 z173:=Tryd.sizeOf136
 v173:=Tryd.zeroValue136
 t212:=Tryd.underlying151
 a212:=Tryd.isAgg151
 z212:=Tryd.sizeOf151
 v212:=Tryd.zeroValue151
 t213:=Tryd.underlying152
 a213:=Tryd.isAgg152
 z213:=Tryd.sizeOf152
 t232:=Tryd.underlying163
 a232:=Tryd.isAgg163
 z232:=Tryd.sizeOf163
 v232:=Tryd.zeroValue163
 t233:=Tryd.underlying164
 a233:=Tryd.isAgg164
 z233:=Tryd.sizeOf164
 v233:=Tryd.zeroValue164
 g17:=by kernel_rfl
 g18:=by kernel_rfl
 g19:=by kernel_rfl }
theorem strconvItoa (n : Int) (h0 : 0 ≤ n) (h1 : n < 100) : FnT Tryd.prog 62 [.one (.v (.int .i64 n))] (.a (.one (.v (.string (bs (numS n)))))) := by
  refine ⟨⟨_, Tryd.func62, by kernel_rfl, by kernel_rfl⟩, fun w vs F hG hv => ?_⟩
  obtain ⟨v1, vr, G1, G2, rfl, g1, ⟨rfl, rfl⟩, rfl⟩ := hv
  simp only [V0r, C] at g1
  obtain ⟨rfl, rfl, _⟩ := g1
  have hcon := Any.strconv_Itoa_small Tryd.lays171 n.toNat (by omega) w
  change Calls Tryd.prog 62 _ _ _ at hcon
  rw [Int.toNat_of_nonneg h0] at hcon
  refine hcon.mono ?_
  rintro e w' ⟨rfl, rfl⟩
  refine ⟨_, [], rfl, ?_, List.nodup_nil, by simp, Ext.refl _⟩
  simp [Vr, V0r, C]
  exact ⟨rfl, rfl⟩
def Tryd.lays156_ren:Go.Shelf.Ren:=⟨fun|156=>61|165=>79|166=>80|169=>81|240=>96|241=>97|276=>114|277=>115|n=>n,fun|31=>68|9=>9|3=>3|4=>4|0=>0|20=>20|72=>106|76=>100|70=>104|37=>82|75=>99|127=>114|164=>129|5=>5|80=>108|n=>n,fun|n=>n⟩
theorem Tryd.lays156:Go.Proofs.Lays.n156 Tryd.prog Tryd.lays156_ren:={
 mixed:=by kernel_rfl
 f156:=Tryd.func61.trans (congrArg some (by kernel_rfl))
 f165:=Tryd.func79.trans (congrArg some (by kernel_rfl))
 f166:=Tryd.func80.trans (congrArg some (by kernel_rfl))
 f169:=Tryd.func81.trans (congrArg some (by kernel_rfl))
 f240:=Tryd.func96.trans (congrArg some (by kernel_rfl))
 f241:=Tryd.func97.trans (congrArg some (by kernel_rfl))
 f276:=Tryd.func114.trans (congrArg some (by kernel_rfl))
 f277:=Tryd.func115.trans (congrArg some (by kernel_rfl))
 t0:=Tryd.underlying0
 a0:=Tryd.isAgg0
 z0:=Tryd.sizeOf0
 v0:=Tryd.zeroValue0
 t3:=Tryd.underlying3
 a3:=Tryd.isAgg3
 z3:=Tryd.sizeOf3
 v3:=Tryd.zeroValue3
 t4:=Tryd.underlying4
 a4:=Tryd.isAgg4
 z4:=Tryd.sizeOf4
 v4:=Tryd.zeroValue4
 t9:=Tryd.underlying9
 a9:=Tryd.isAgg9
 z9:=Tryd.sizeOf9
 v9:=Tryd.zeroValue9
 t20:=Tryd.underlying20
 a20:=Tryd.isAgg20
 z20:=Tryd.sizeOf20
 v20:=Tryd.zeroValue20
 t31:=Tryd.underlying68
 a31:=Tryd.isAgg68
 z31:=Tryd.sizeOf68
 v31:=Tryd.zeroValue68
 t37:=Tryd.underlying82
 a37:=Tryd.isAgg82
 z37:=Tryd.sizeOf82
 v37:=Tryd.zeroValue82
 t70:=Tryd.underlying104
 a70:=Tryd.isAgg104
 z70:=Tryd.sizeOf104
 v70:=Tryd.zeroValue104
 t72:=Tryd.underlying106
 a72:=Tryd.isAgg106
 z72:=Tryd.sizeOf106
 v72:=Tryd.zeroValue106
 t75:=Tryd.underlying99
 a75:=Tryd.isAgg99
 z75:=Tryd.sizeOf99
 v75:=Tryd.zeroValue99
 t76:=Tryd.underlying100
 a76:=Tryd.isAgg100
 z76:=Tryd.sizeOf100
 v76:=Tryd.zeroValue100
 t127:=Tryd.underlying114
 a127:=Tryd.isAgg114
 z127:=Tryd.sizeOf114
 v127:=Tryd.zeroValue114
 t164:=Tryd.underlying129
 a164:=Tryd.isAgg129
 z164:=Tryd.sizeOf129
 v164:=Tryd.zeroValue129 }
theorem joinExtra : Builder.Extra Tryd.prog Tryd.lays156_ren where
  sizeBuilder := by kernel_rfl
  liesBuilder := by kernel_rfl
  t5 := Tryd.lays171.t5
  a5 := Tryd.lays171.a5
  z5 := Tryd.lays171.z5
  v5 := Tryd.lays171.v5
  infoByte := by kernel_rfl
  cellsByte := by kernel_rfl
  sizeByte := by kernel_rfl
  neB5 := by decide
theorem stringsJoin (xs : List (List UInt8)) (sep : List UInt8) (hz : (joinL sep xs).length ≤ 140737488355328) (hn : xs.length ≤ 1099511627776) : FnT Tryd.prog 61 [.one (.sl 1 (xs.map cStr)), .one (.v (.string (bs sep)))] (.a (.one (.v (.string (bs (joinL sep xs)))))) := by
  refine ⟨⟨_, Tryd.func61, by kernel_rfl, by kernel_rfl⟩, fun w vs F hG hv => ?_⟩
  obtain ⟨v1, vr, G1, G2, rfl, g1, ⟨v2, vr2, G3, G4, rfl, g2, ⟨rfl, rfl⟩, rfl⟩, rfl⟩ := hv
  simp only [V0r, C] at g1 g2
  obtain ⟨rfl, rfl, _⟩ := g2
  obtain ⟨a, len, cap, rfl, e1, e2, e3, e4⟩ := g1
  have hmap : (xs.map bs).map (·.data.toList) = xs := by
    rw [List.map_map]
    conv => rhs; rw [← List.map_id xs]
    exact List.map_congr_left fun x _ => bs_list x
  rcases e4 with ⟨rfl, _, _⟩ | ⟨b, off, G, rfl, _, hb, _, hR⟩
  · have hx : xs = [] := by cases xs with | nil => rfl | cons _ _ => simp at e1
    subst hx
    have hcon := Any.strings_Join_none Tryd.lays156 joinExtra a cap (bs sep) w
    change Calls Tryd.prog 61 _ _ _ at hcon
    refine hcon.mono ?_
    rintro e w' ⟨rfl, rfl⟩
    refine ⟨_, [], rfl, ?_, List.nodup_nil, by simp, Ext.refl _⟩
    simp [Vr, V0r, C]
    exact ⟨rfl, rfl⟩
  · have hlen : xs.length = len := by simpa using e1
    subst hlen
    have hcells : ∀ (j : Nat) x, (xs.map bs)[j]? = some x → w.cell? ⟨b, off + j, none⟩ = some (.string x) := fun j x hj => by
      have hj2 : (xs.map cStr)[j]? = some [.v (.string x)] := by
        rw [List.getElem?_map] at hj ⊢
        cases hx : xs[j]? with
        | none => rw [hx] at hj; cases hj
        | some y => rw [hx] at hj; cases hj; rfl
      obtain ⟨G', hM, _⟩ := hR.get hj2
      simp only [Ms, C] at hM
      obtain ⟨c, _, _, hc, ⟨rfl, _⟩, _⟩ := hM
      rw [Nat.mul_one] at hc
      exact hc
    have hcon := Any.strings_Join Tryd.lays156 joinExtra b off cap (xs.map bs) (bs sep) w hcells hb (by rw [List.length_map]; omega) (by rw [List.length_map]; exact e2) (by rw [hmap, bs_list]; exact hz)
    rw [hmap, bs_list, List.length_map] at hcon
    change Calls Tryd.prog 61 _ _ _ at hcon
    refine hcon.mono ?_
    rintro e w' ⟨rfl, hB⟩
    refine ⟨_, [], rfl, ?_, List.nodup_nil, by simp, (Ext.refl w).trans' hB.os hB.tape hB.output hB.size hB.block⟩
    simp [Vr, V0r, C]
    exact ⟨rfl, rfl⟩
end Go.Proofs.YtibjbmjgmfiecaaDoor
