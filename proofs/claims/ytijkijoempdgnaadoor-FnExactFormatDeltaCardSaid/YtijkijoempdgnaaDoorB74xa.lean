/- strings.Join, strconv.Itoa of small numbers, for the walks. -/
import Derived.Test.YtijkijoempdgnaaDoorB73xa
import Derived.Shelf.Abstract
import Derived.Shelf.Strings.OnBuilder
import Derived.Shelf.Strconv.Itoa3
import Derived.Ground.NamesProg
set_option linter.unusedVariables false
set_option linter.unusedSimpArgs false
set_option maxHeartbeats 1000000
set_option maxRecDepth 100000
namespace Go.Proofs.YtijkijoempdgnaaDoor
open Go.RowKit Go.Q Go.D Go.Shelf
def Tryd.lays171_ren:Go.Shelf.Ren:=⟨fun|171=>46|243=>63|246=>76|283=>84|284=>85|285=>86|286=>87|129=>90|317=>89|318=>91|319=>92|320=>93|337=>94|338=>95|n=>n,fun|3=>3|9=>9|2=>2|4=>4|171=>123|0=>0|53=>124|37=>77|5=>5|173=>127|212=>132|51=>133|20=>20|213=>134|46=>135|232=>138|233=>139|n=>n,fun|17=>1|18=>2|19=>3|n=>n⟩
theorem Tryd.lays171:Go.Proofs.Lays.n171 Tryd.prog Tryd.lays171_ren:={
 mixed:=by kernel_rfl
 f129:=Tryd.func90.trans (congrArg some (by kernel_rfl))
 f171:=Tryd.func46.trans (congrArg some (by kernel_rfl))
 f243:=Tryd.func63.trans (congrArg some (by kernel_rfl))
 f246:=Tryd.func76.trans (congrArg some (by kernel_rfl))
 f283:=Tryd.func84.trans (congrArg some (by kernel_rfl))
 f284:=Tryd.func85.trans (congrArg some (by kernel_rfl))
 f285:=Tryd.func86.trans (congrArg some (by kernel_rfl))
 f286:=Tryd.func87.trans (congrArg some (by kernel_rfl))
 f317:=Tryd.func89.trans (congrArg some (by kernel_rfl))
 f318:=Tryd.func91.trans (congrArg some (by kernel_rfl))
 f319:=Tryd.func92.trans (congrArg some (by kernel_rfl))
 f320:=Tryd.func93.trans (congrArg some (by kernel_rfl))
 f337:=Tryd.func94.trans (congrArg some (by kernel_rfl))
 f338:=Tryd.func95.trans (congrArg some (by kernel_rfl))
 t0:=Tryd.underlying0
 a0:=Tryd.isAgg0
 z0:=Tryd.sizeOf0
 v0:=Tryd.zeroValue0
 t2:=Tryd.underlying2
 a2:=Tryd.isAgg2
 z2:=Tryd.sizeOf2
 v2:=Tryd.zeroValue2
 t3:=Tryd.underlying3
 a3:=Tryd.isAgg3
 z3:=Tryd.sizeOf3
 v3:=Tryd.zeroValue3
 t4:=Tryd.underlying4
 a4:=Tryd.isAgg4
 z4:=Tryd.sizeOf4
 v4:=Tryd.zeroValue4
 t5:=Tryd.underlying5
 a5:=Tryd.isAgg5
 z5:=Tryd.sizeOf5
 v5:=Tryd.zeroValue5
 t9:=Tryd.underlying9
 a9:=Tryd.isAgg9
 z9:=Tryd.sizeOf9
 v9:=Tryd.zeroValue9
 t20:=Tryd.underlying20
 a20:=Tryd.isAgg20
 z20:=Tryd.sizeOf20
 v20:=Tryd.zeroValue20
 t37:=Tryd.underlying77
 a37:=Tryd.isAgg77
 z37:=Tryd.sizeOf77
 v37:=Tryd.zeroValue77
 t46:=Tryd.underlying135
 a46:=Tryd.isAgg135
 z46:=Tryd.sizeOf135
 v46:=Tryd.zeroValue135
 t51:=Tryd.underlying133
 a51:=Tryd.isAgg133
 z51:=Tryd.sizeOf133
 v51:=Tryd.zeroValue133
 t53:=Tryd.underlying124
 a53:=Tryd.isAgg124
 z53:=Tryd.sizeOf124
 v53:=Tryd.zeroValue124
 t171:=Tryd.underlying123
 a171:=Tryd.isAgg123
 z171:=Tryd.sizeOf123
 v171:=Tryd.zeroValue123
 t173:=Tryd.underlying127
 a173:=Tryd.isAgg127
 z173:=Tryd.sizeOf127
 v173:=Tryd.zeroValue127
 t212:=Tryd.underlying132
 a212:=Tryd.isAgg132
 z212:=Tryd.sizeOf132
 v212:=Tryd.zeroValue132
 t213:=Tryd.underlying134
 a213:=Tryd.isAgg134
 z213:=Tryd.sizeOf134
 t232:=Tryd.underlying138
 a232:=Tryd.isAgg138
 z232:=Tryd.sizeOf138
 v232:=Tryd.zeroValue138
 t233:=Tryd.underlying139
 a233:=Tryd.isAgg139
 z233:=Tryd.sizeOf139
 v233:=Tryd.zeroValue139
 g17:=by kernel_rfl
 g18:=by kernel_rfl
 g19:=by kernel_rfl }
theorem strconvItoa (n : Int) (h0 : 0 ≤ n) (h1 : n < 100) : FnT Tryd.prog 46 [.one (.v (.int .i64 n))] (.a (.one (.v (.string (bs (numS n)))))) := by
  refine ⟨⟨_, Tryd.func46, by kernel_rfl, by kernel_rfl⟩, fun w vs F hv => ?_⟩
  obtain ⟨v1, vr, G1, G2, rfl, g1, ⟨rfl, rfl⟩, rfl⟩ := hv
  simp only [V0r, C] at g1
  obtain ⟨rfl, rfl, _⟩ := g1
  have hcon := Any.strconv_Itoa_small Tryd.lays171 n.toNat (by omega) w
  change Calls Tryd.prog 46 _ _ _ at hcon
  rw [Int.toNat_of_nonneg h0] at hcon
  refine hcon.mono ?_
  rintro e w' ⟨rfl, rfl⟩
  refine ⟨_, [], rfl, ?_, List.nodup_nil, by simp, Ext.refl _⟩
  simp [Vr, V0r, C]
  exact ⟨rfl, rfl⟩
def Tryd.lays156_ren:Go.Shelf.Ren:=⟨fun|156=>30|165=>48|166=>49|169=>50|240=>65|241=>66|276=>78|277=>79|n=>n,fun|31=>59|9=>9|3=>3|4=>4|0=>0|20=>20|72=>86|76=>90|70=>84|37=>77|75=>89|127=>100|164=>112|5=>5|80=>92|n=>n,fun|n=>n⟩
theorem Tryd.lays156:Go.Proofs.Lays.n156 Tryd.prog Tryd.lays156_ren:={
 mixed:=by kernel_rfl
 f156:=Tryd.func30.trans (congrArg some (by kernel_rfl))
 f165:=Tryd.func48.trans (congrArg some (by kernel_rfl))
 f166:=Tryd.func49.trans (congrArg some (by kernel_rfl))
 f169:=Tryd.func50.trans (congrArg some (by kernel_rfl))
 f240:=Tryd.func65.trans (congrArg some (by kernel_rfl))
 f241:=Tryd.func66.trans (congrArg some (by kernel_rfl))
 f276:=Tryd.func78.trans (congrArg some (by kernel_rfl))
 f277:=Tryd.func79.trans (congrArg some (by kernel_rfl))
 t0:=Tryd.underlying0
 a0:=Tryd.isAgg0
 z0:=Tryd.sizeOf0
 v0:=Tryd.zeroValue0
 t3:=Tryd.underlying3
 a3:=Tryd.isAgg3
 z3:=Tryd.sizeOf3
 v3:=Tryd.zeroValue3
 t4:=Tryd.underlying4
 a4:=Tryd.isAgg4
 z4:=Tryd.sizeOf4
 v4:=Tryd.zeroValue4
 t9:=Tryd.underlying9
 a9:=Tryd.isAgg9
 z9:=Tryd.sizeOf9
 v9:=Tryd.zeroValue9
 t20:=Tryd.underlying20
 a20:=Tryd.isAgg20
 z20:=Tryd.sizeOf20
 v20:=Tryd.zeroValue20
 t31:=Tryd.underlying59
 a31:=Tryd.isAgg59
 z31:=Tryd.sizeOf59
 v31:=Tryd.zeroValue59
 t37:=Tryd.underlying77
 a37:=Tryd.isAgg77
 z37:=Tryd.sizeOf77
 v37:=Tryd.zeroValue77
 t70:=Tryd.underlying84
 a70:=Tryd.isAgg84
 z70:=Tryd.sizeOf84
 v70:=Tryd.zeroValue84
 t72:=Tryd.underlying86
 a72:=Tryd.isAgg86
 z72:=Tryd.sizeOf86
 v72:=Tryd.zeroValue86
 t75:=Tryd.underlying89
 a75:=Tryd.isAgg89
 z75:=Tryd.sizeOf89
 v75:=Tryd.zeroValue89
 t76:=Tryd.underlying90
 a76:=Tryd.isAgg90
 z76:=Tryd.sizeOf90
 v76:=Tryd.zeroValue90
 t127:=Tryd.underlying100
 a127:=Tryd.isAgg100
 z127:=Tryd.sizeOf100
 v127:=Tryd.zeroValue100
 t164:=Tryd.underlying112
 a164:=Tryd.isAgg112
 z164:=Tryd.sizeOf112
 v164:=Tryd.zeroValue112 }
theorem joinExtra : Builder.Extra Tryd.prog Tryd.lays156_ren where
  sizeBuilder := by kernel_rfl
  liesBuilder := by kernel_rfl
  t5 := Tryd.lays171.t5
  a5 := Tryd.lays171.a5
  z5 := Tryd.lays171.z5
  v5 := Tryd.lays171.v5
  infoByte := by kernel_rfl
  cellsByte := by kernel_rfl
  sizeByte := by kernel_rfl
  neB5 := by decide
theorem stringsJoin (xs : List (List UInt8)) (sep : List UInt8) (hz : (joinL sep xs).length ≤ 140737488355328) (hn : xs.length ≤ 1099511627776) : FnT Tryd.prog 30 [.one (.sl 1 (xs.map cStr)), .one (.v (.string (bs sep)))] (.a (.one (.v (.string (bs (joinL sep xs)))))) := by
  refine ⟨⟨_, Tryd.func30, by kernel_rfl, by kernel_rfl⟩, fun w vs F hv => ?_⟩
  obtain ⟨v1, vr, G1, G2, rfl, g1, ⟨v2, vr2, G3, G4, rfl, g2, ⟨rfl, rfl⟩, rfl⟩, rfl⟩ := hv
  simp only [V0r, C] at g1 g2
  obtain ⟨rfl, rfl, _⟩ := g2
  obtain ⟨a, len, cap, rfl, e1, e2, e3, e4⟩ := g1
  have hmap : (xs.map bs).map (·.data.toList) = xs := by
    rw [List.map_map]
    conv => rhs; rw [← List.map_id xs]
    exact List.map_congr_left fun x _ => bs_list x
  rcases e4 with ⟨rfl, _, _⟩ | ⟨b, off, G, rfl, _, hb, _, hR⟩
  · have hx : xs = [] := by cases xs with | nil => rfl | cons _ _ => simp at e1
    subst hx
    have hcon := Any.strings_Join_none Tryd.lays156 joinExtra a cap (bs sep) w
    change Calls Tryd.prog 30 _ _ _ at hcon
    refine hcon.mono ?_
    rintro e w' ⟨rfl, rfl⟩
    refine ⟨_, [], rfl, ?_, List.nodup_nil, by simp, Ext.refl _⟩
    simp [Vr, V0r, C]
    exact ⟨rfl, rfl⟩
  · have hlen : xs.length = len := by simpa using e1
    subst hlen
    have hcells : ∀ (j : Nat) x, (xs.map bs)[j]? = some x → w.cell? ⟨b, off + j, none⟩ = some (.string x) := fun j x hj => by
      have hj2 : (xs.map cStr)[j]? = some [.v (.string x)] := by
        rw [List.getElem?_map] at hj ⊢
        cases hx : xs[j]? with
        | none => rw [hx] at hj; cases hj
        | some y => rw [hx] at hj; cases hj; rfl
      obtain ⟨G', hM, _⟩ := hR.get hj2
      simp only [Ms, C] at hM
      obtain ⟨c, _, _, hc, ⟨rfl, _⟩, _⟩ := hM
      rw [Nat.mul_one] at hc
      exact hc
    have hcon := Any.strings_Join Tryd.lays156 joinExtra b off cap (xs.map bs) (bs sep) w hcells hb (by rw [List.length_map]; omega) (by rw [List.length_map]; exact e2) (by rw [hmap, bs_list]; exact hz)
    rw [hmap, bs_list, List.length_map] at hcon
    change Calls Tryd.prog 30 _ _ _ at hcon
    refine hcon.mono ?_
    rintro e w' ⟨rfl, hB⟩
    refine ⟨_, [], rfl, ?_, List.nodup_nil, by simp, (Ext.refl w).trans' hB.os hB.tape hB.output hB.size hB.block⟩
    simp [Vr, V0r, C]
    exact ⟨rfl, rfl⟩
end Go.Proofs.YtijkijoempdgnaaDoor
