/- strings.Join, strconv.Itoa of small numbers, for the walks. -/
import Derived.Test.YtoealglkenhphaaDoorB73xa
import Derived.Shelf.Lay
import Derived.Shelf.Strings.OnBuilder
import Derived.Shelf.Strconv.Itoa3
import Derived.Ground.NamesProg
set_option linter.unusedVariables false
set_option linter.unusedSimpArgs false
set_option maxHeartbeats 1000000
set_option maxRecDepth 100000
namespace Go.Proofs.YtoealglkenhphaaDoor
open Go.RowKit Go.Q Go.D Go.Shelf
shelf_lay Lays.n171 Nm 171 at Tryd as Tryd.lays171
theorem strconvItoa (n : Int) (h0 : 0 ≤ n) (h1 : n < 100) : FnT Tryd.prog 37 [.one (.v (.int .i64 n))] (.a (.one (.v (.string (bs (numS n)))))) := by
  refine ⟨⟨_, Tryd.func37, by kernel_rfl, by kernel_rfl⟩, fun w vs F hG hv => ?_⟩
  obtain ⟨v1, vr, G1, G2, rfl, g1, ⟨rfl, rfl⟩, rfl⟩ := hv
  simp only [V0r, C] at g1
  obtain ⟨rfl, rfl, _⟩ := g1
  have hcon := Any.strconv_Itoa_small Tryd.lays171 n.toNat (by omega) w
  change Calls Tryd.prog 37 _ _ _ at hcon
  rw [Int.toNat_of_nonneg h0] at hcon
  refine hcon.mono ?_
  rintro e w' ⟨rfl, rfl⟩
  refine ⟨_, [], rfl, ?_, List.nodup_nil, by simp, Ext.refl _⟩
  simp [Vr, V0r, C]
  exact ⟨rfl, rfl⟩
shelf_lay Lays.n156 Nm 156 at Tryd as Tryd.lays156
theorem joinExtra : Builder.Extra Tryd.prog Tryd.lays156_ren where
  sizeBuilder := by kernel_rfl
  liesBuilder := by kernel_rfl
  t5 := Tryd.lays171.t5
  a5 := Tryd.lays171.a5
  z5 := Tryd.lays171.z5
  v5 := Tryd.lays171.v5
  infoByte := by kernel_rfl
  cellsByte := by kernel_rfl
  sizeByte := by kernel_rfl
  neB5 := by decide
theorem stringsJoin (xs : List (List UInt8)) (sep : List UInt8) (hz : (joinL sep xs).length ≤ 140737488355328) (hn : xs.length ≤ 1099511627776) : FnT Tryd.prog 55 [.one (.sl 1 (xs.map cStr)), .one (.v (.string (bs sep)))] (.a (.one (.v (.string (bs (joinL sep xs)))))) := by
  refine ⟨⟨_, Tryd.func55, by kernel_rfl, by kernel_rfl⟩, fun w vs F hG hv => ?_⟩
  obtain ⟨v1, vr, G1, G2, rfl, g1, ⟨v2, vr2, G3, G4, rfl, g2, ⟨rfl, rfl⟩, rfl⟩, rfl⟩ := hv
  simp only [V0r, C] at g1 g2
  obtain ⟨rfl, rfl, _⟩ := g2
  obtain ⟨a, len, cap, rfl, e1, e2, e3, e4⟩ := g1
  have hmap : (xs.map bs).map (·.data.toList) = xs := by
    rw [List.map_map]
    conv => rhs; rw [← List.map_id xs]
    exact List.map_congr_left fun x _ => bs_list x
  rcases e4 with ⟨rfl, _, _⟩ | ⟨b, off, G, rfl, _, hb, _, hR⟩
  · have hx : xs = [] := by cases xs with | nil => rfl | cons _ _ => simp at e1
    subst hx
    have hcon := Any.strings_Join_none Tryd.lays156 joinExtra a cap (bs sep) w
    change Calls Tryd.prog 55 _ _ _ at hcon
    refine hcon.mono ?_
    rintro e w' ⟨rfl, rfl⟩
    refine ⟨_, [], rfl, ?_, List.nodup_nil, by simp, Ext.refl _⟩
    simp [Vr, V0r, C]
    exact ⟨rfl, rfl⟩
  · have hlen : xs.length = len := by simpa using e1
    subst hlen
    have hcells : ∀ (j : Nat) x, (xs.map bs)[j]? = some x → w.cell? ⟨b, off + j, none⟩ = some (.string x) := fun j x hj => by
      have hj2 : (xs.map cStr)[j]? = some [.v (.string x)] := by
        rw [List.getElem?_map] at hj ⊢
        cases hx : xs[j]? with
        | none => rw [hx] at hj; cases hj
        | some y => rw [hx] at hj; cases hj; rfl
      obtain ⟨G', hM, _⟩ := hR.get hj2
      simp only [Ms, C] at hM
      obtain ⟨c, _, _, hc, ⟨rfl, _⟩, _⟩ := hM
      rw [Nat.mul_one] at hc
      exact hc
    have hcon := Any.strings_Join Tryd.lays156 joinExtra b off cap (xs.map bs) (bs sep) w hcells hb (by rw [List.length_map]; omega) (by rw [List.length_map]; exact e2) (by rw [hmap, bs_list]; exact hz)
    rw [hmap, bs_list, List.length_map] at hcon
    change Calls Tryd.prog 55 _ _ _ at hcon
    refine hcon.mono ?_
    rintro e w' ⟨rfl, hB⟩
    refine ⟨_, [], rfl, ?_, List.nodup_nil, by simp, (Ext.refl w).trans' hB.os hB.tape hB.output hB.size hB.block⟩
    simp [Vr, V0r, C]
    exact ⟨rfl, rfl⟩
end Go.Proofs.YtoealglkenhphaaDoor
