/- Merged texts. -/
import Derived.Test.YtoealglkenhphaaGreatDoorAbsNxa
import Derived.Laws.Cover3
import Derived.Test.YtoealglkenhphaaGreatDoorB02xa
import Derived.Test.YtoealglkenhphaaGreatDoorAbsXxa
import Derived.Lib.Join
import Derived.Lib.ItoaNum
import Derived.Shelf.Abstract
import Derived.Shelf.Strings.OnBuilder
import Derived.Shelf.Strconv.Itoa3
import Derived.Ground.NamesProg
set_option linter.unusedVariables false
set_option linter.unusedSimpArgs false
namespace Go.Q
open Go.RowKit
section
variable {P : Program} {ops : Array Oper} {o : Oper} {σ : St} {q : Bool}
/-- A number turned into another kind. -/
theorem R_conv {t t' : TypeId} {x : Operand} {k0 k : IntKind} {n m : Int} (ho : o.op = .convert t t' x) (hg : Grd ops o σ q) (hd : o.dst.all (fun d => Nat.blt d σ.n) = true) (hx : Get σ q x (.one (.t (.v (.int k0 n))))) (hu0 : (P.underlying t).isSome = true) (hu : P.underlying t' = some (.int k)) (hm : q = true → k.wrap n = m) :
    Op1 P ops o σ (σ.put o.dst (q, .a (.one (.t (.v (.int k m)))))) :=
  .val hg hd fun I w0 a w hr hq => by
    have hv := hx.int hr hq
    obtain ⟨u0, hu0⟩ := Option.isSome_iff_exists.1 hu0
    exact ⟨_, by simp [execOp, ho, hv, Go.convert, run_underlying hu0, run_underlying hu, Conv.intToInt, hm hq], VS_v _⟩
end
end Go.Q
set_option linter.unusedVariables false
set_option linter.unusedSimpArgs false
set_option maxHeartbeats 1000000
set_option maxRecDepth 100000
namespace Go.Q
open Go.D
def bs (l : List UInt8) : ByteArray := ⟨l.toArray⟩
theorem bs_append (l m : List UInt8) : bs l ++ bs m = bs (l ++ m) := by
  apply ByteArray.ext
  rw [ByteArray.data_append]
  simp [bs]
theorem bs_nil_append (O : ByteArray) : bs [] ++ O = O := by
  apply ByteArray.ext
  rw [ByteArray.data_append]
  simp [bs]
theorem bs_size (l : List UInt8) : (bs l).size = l.length := by simp [bs, ByteArray.size]
theorem bs_list (l : List UInt8) : (bs l).data.toList = l := by simp [bs]
theorem bs_inj {l m : List UInt8} (h : bs l = bs m) : l = m := by rw [← bs_list l, ← bs_list m, h]
def numS (n : Int) : List UInt8 := Lib.decDigits n.toNat
theorem dig_small {n : Nat} (h : n < 10) : Lib.decDigits n = [UInt8.ofNat (48 + n)] := by rw [Lib.decDigits, dif_pos h]
theorem dig_more {n : Nat} (h : 10 ≤ n) : Lib.decDigits n = Lib.decDigits (n / 10) ++ [UInt8.ofNat (48 + n % 10)] := by rw [Lib.decDigits, dif_neg (by omega)]
theorem dig_len {n : Nat} (h : n < 100) : 1 ≤ (Lib.decDigits n).length ∧ (Lib.decDigits n).length ≤ 2 := by
  by_cases h1 : n < 10
  · rw [dig_small h1]; simp
  · rw [dig_more (by omega), dig_small (by omega)]; simp
theorem numS_len {n : Int} (h : n < 100) : 1 ≤ (numS n).length ∧ (numS n).length ≤ 2 := dig_len (by omega)
/-- The digits still to be written, then those written. -/
def restD (n : Nat) : List UInt8 := if n = 0 then [] else Lib.decDigits n
theorem restD_step {n : Nat} (h : n ≠ 0) : restD n = restD (n / 10) ++ [UInt8.ofNat (48 + n % 10)] := by
  unfold restD
  rw [if_neg h]
  by_cases h1 : n < 10
  · rw [dig_small h1, if_pos (by omega), Nat.mod_eq_of_lt h1]; rfl
  · rw [dig_more (by omega), if_neg (by omega)]
/-- Parts with a separator between them, as they are added one by one. -/
def joinL (sep : List UInt8) (xs : List (List UInt8)) : List UInt8 := Lib.join xs sep
theorem joinL_nil (sep : List UInt8) : joinL sep [] = [] := rfl
theorem joinL_snoc (sep : List UInt8) (xs : List (List UInt8)) (x : List UInt8) : joinL sep (xs ++ [x]) = if xs = [] then x else joinL sep xs ++ sep ++ x := by
  unfold joinL
  cases xs with
  | nil => rw [if_pos rfl]; exact Lib.join_one x sep
  | cons y r =>
    rw [if_neg (by simp), List.cons_append, Lib.join_cons, Lib.join_cons]
    simp [Lib.joinTail, List.append_assoc]
theorem joinL_at {sep : List UInt8} {α : Type} (f : α → List UInt8) {l : List α} {k : Nat} {x : α} (h : l[k]? = some x) : joinL sep ((l.take (k + 1)).map f) = if k = 0 then f x else joinL sep ((l.take k).map f) ++ sep ++ f x := by
  rw [take_at h, List.map_append, List.map_singleton, joinL_snoc]
  have hk := (List.getElem?_eq_some_iff.1 h).1
  by_cases e : k = 0
  · subst e; rw [if_pos rfl, if_pos (by simp)]
  · rw [if_neg e, if_neg (fun hh => e (by have := congrArg List.length hh; rw [List.length_map, List.length_take, List.length_nil] at this; omega))]
theorem joinL_len {sep : List UInt8} {b : Nat} {α : Type} {f : α → List UInt8} : ∀ {l : List α}, (∀ x ∈ l, (f x).length ≤ b) → (joinL sep (l.map f)).length ≤ l.length * (b + sep.length)
  | [], _ => by simp [joinL_nil]
  | x :: l, h => by
    have h1 := h x (by simp)
    have h2 : ∀ (r : List α), (∀ x ∈ r, (f x).length ≤ b) → (Lib.joinTail sep (r.map f)).length ≤ r.length * (b + sep.length) := by
      intro r
      induction r with
      | nil => intro _; simp [Lib.joinTail]
      | cons y r ih =>
        intro hr
        have h3 := hr y (by simp)
        have h4 := ih fun z hz => hr z (by simp [hz])
        simp only [Lib.joinTail, List.map_cons, List.flatten_cons, List.length_append, List.length_cons] at h4 ⊢
        rw [Nat.succ_mul]; omega
    have h5 := h2 l fun z hz => h z (by simp [hz])
    unfold joinL
    rw [List.map_cons, Lib.join_cons, List.length_append, List.length_cons, Nat.succ_mul]
    omega
def cStr (s : List UInt8) : List T := [.v (.string (bs s))]
end Go.Q
set_option linter.unusedVariables false
set_option linter.unusedSimpArgs false
set_option maxHeartbeats 1000000
set_option maxRecDepth 100000
namespace Go.Proofs.YtoealglkenhphaaGreatDoor
open Go.RowKit Go.Q Go.D Go.Shelf
def Tryz.lays171_ren:Go.Shelf.Ren:=⟨fun|171=>28|243=>48|246=>72|283=>93|284=>94|285=>95|286=>96|129=>108|317=>107|318=>109|319=>110|320=>111|337=>116|338=>117|n=>n,fun|3=>3|9=>9|2=>2|4=>4|171=>112|0=>0|53=>105|37=>64|5=>5|173=>115|212=>134|51=>102|20=>20|213=>135|46=>83|232=>145|233=>146|n=>n,fun|17=>5|18=>6|19=>7|n=>n⟩
theorem Tryz.lays171:Go.Proofs.Lays.n171 Tryz.prog Tryz.lays171_ren:={
 mixed:=by kernel_rfl
 f129:=Tryz.func108.trans (congrArg some (by kernel_rfl))
 f171:=Tryz.func28.trans (congrArg some (by kernel_rfl))
 f243:=Tryz.func48.trans (congrArg some (by kernel_rfl))
 f246:=Tryz.func72.trans (congrArg some (by kernel_rfl))
 f283:=Tryz.func93.trans (congrArg some (by kernel_rfl))
 f284:=Tryz.func94.trans (congrArg some (by kernel_rfl))
 f285:=Tryz.func95.trans (congrArg some (by kernel_rfl))
 f286:=Tryz.func96.trans (congrArg some (by kernel_rfl))
 f317:=Tryz.func107.trans (congrArg some (by kernel_rfl))
 f318:=Tryz.func109.trans (congrArg some (by kernel_rfl))
 f319:=Tryz.func110.trans (congrArg some (by kernel_rfl))
 f320:=Tryz.func111.trans (congrArg some (by kernel_rfl))
 f337:=Tryz.func116.trans (congrArg some (by kernel_rfl))
 f338:=Tryz.func117.trans (congrArg some (by kernel_rfl))
 t0:=Tryz.underlying0
 a0:=Tryz.isAgg0
 z0:=Tryz.sizeOf0
 v0:=Tryz.zeroValue0
 t2:=Tryz.underlying2
 a2:=Tryz.isAgg2
 z2:=Tryz.sizeOf2
 v2:=Tryz.zeroValue2
 t3:=Tryz.underlying3
 a3:=Tryz.isAgg3
 z3:=Tryz.sizeOf3
 v3:=Tryz.zeroValue3
 t4:=Tryz.underlying4
 a4:=Tryz.isAgg4
 z4:=Tryz.sizeOf4
 v4:=Tryz.zeroValue4
 t5:=Tryz.underlying5
 a5:=Tryz.isAgg5
 z5:=Tryz.sizeOf5
 v5:=Tryz.zeroValue5
 t9:=Tryz.underlying9
 a9:=Tryz.isAgg9
 z9:=Tryz.sizeOf9
 v9:=Tryz.zeroValue9
 t20:=Tryz.underlying20
 a20:=Tryz.isAgg20
 z20:=Tryz.sizeOf20
 v20:=Tryz.zeroValue20
 t37:=Tryz.underlying64
 a37:=Tryz.isAgg64
 z37:=Tryz.sizeOf64
 v37:=Tryz.zeroValue64
 t46:=Tryz.underlying83
 a46:=Tryz.isAgg83
 z46:=Tryz.sizeOf83
 v46:=Tryz.zeroValue83
 t51:=Tryz.underlying102
 a51:=Tryz.isAgg102
 z51:=Tryz.sizeOf102
 v51:=Tryz.zeroValue102
 t53:=Tryz.underlying105
 a53:=Tryz.isAgg105
 z53:=Tryz.sizeOf105
 v53:=Tryz.zeroValue105
 t171:=Tryz.underlying112
 a171:=Tryz.isAgg112
 z171:=Tryz.sizeOf112
 v171:=Tryz.zeroValue112
 t173:=Tryz.underlying115
 a173:=Tryz.isAgg115
 z173:=Tryz.sizeOf115
 v173:=Tryz.zeroValue115
 t212:=Tryz.underlying134
 a212:=Tryz.isAgg134
 z212:=Tryz.sizeOf134
 v212:=Tryz.zeroValue134
 t213:=Tryz.underlying135
 a213:=Tryz.isAgg135
 z213:=Tryz.sizeOf135
 t232:=Tryz.underlying145
 a232:=Tryz.isAgg145
 z232:=Tryz.sizeOf145
 v232:=Tryz.zeroValue145
 t233:=Tryz.underlying146
 a233:=Tryz.isAgg146
 z233:=Tryz.sizeOf146
 v233:=Tryz.zeroValue146
 g17:=by kernel_rfl
 g18:=by kernel_rfl
 g19:=by kernel_rfl }
theorem strconvItoa (n : Int) (h0 : 0 ≤ n) (h1 : n < 100) : FnT Tryz.prog 28 [.one (.v (.int .i64 n))] (.a (.one (.v (.string (bs (numS n)))))) := by
  refine ⟨⟨_, Tryz.func28, by kernel_rfl, by kernel_rfl⟩, fun w vs F hG hv => ?_⟩
  obtain ⟨v1, vr, G1, G2, rfl, g1, ⟨rfl, rfl⟩, rfl⟩ := hv
  simp only [V0r, C] at g1
  obtain ⟨rfl, rfl, _⟩ := g1
  have hcon := Any.strconv_Itoa_small Tryz.lays171 n.toNat (by omega) w
  change Calls Tryz.prog 28 _ _ _ at hcon
  rw [Int.toNat_of_nonneg h0] at hcon
  refine hcon.mono ?_
  rintro e w' ⟨rfl, rfl⟩
  refine ⟨_, [], rfl, ?_, List.nodup_nil, by simp, Ext.refl _⟩
  simp [Vr, V0r, C]
  exact ⟨rfl, rfl⟩
def Tryz.lays156_ren:Go.Shelf.Ren:=⟨fun|156=>34|165=>54|166=>55|169=>56|240=>83|241=>84|276=>102|277=>103|n=>n,fun|31=>30|9=>9|3=>3|4=>4|0=>0|20=>20|72=>73|76=>57|70=>71|37=>64|75=>56|127=>99|164=>121|5=>5|80=>75|n=>n,fun|n=>n⟩
theorem Tryz.lays156:Go.Proofs.Lays.n156 Tryz.prog Tryz.lays156_ren:={
 mixed:=by kernel_rfl
 f156:=Tryz.func34.trans (congrArg some (by kernel_rfl))
 f165:=Tryz.func54.trans (congrArg some (by kernel_rfl))
 f166:=Tryz.func55.trans (congrArg some (by kernel_rfl))
 f169:=Tryz.func56.trans (congrArg some (by kernel_rfl))
 f240:=Tryz.func83.trans (congrArg some (by kernel_rfl))
 f241:=Tryz.func84.trans (congrArg some (by kernel_rfl))
 f276:=Tryz.func102.trans (congrArg some (by kernel_rfl))
 f277:=Tryz.func103.trans (congrArg some (by kernel_rfl))
 t0:=Tryz.underlying0
 a0:=Tryz.isAgg0
 z0:=Tryz.sizeOf0
 v0:=Tryz.zeroValue0
 t3:=Tryz.underlying3
 a3:=Tryz.isAgg3
 z3:=Tryz.sizeOf3
 v3:=Tryz.zeroValue3
 t4:=Tryz.underlying4
 a4:=Tryz.isAgg4
 z4:=Tryz.sizeOf4
 v4:=Tryz.zeroValue4
 t9:=Tryz.underlying9
 a9:=Tryz.isAgg9
 z9:=Tryz.sizeOf9
 v9:=Tryz.zeroValue9
 t20:=Tryz.underlying20
 a20:=Tryz.isAgg20
 z20:=Tryz.sizeOf20
 v20:=Tryz.zeroValue20
 t31:=Tryz.underlying30
 a31:=Tryz.isAgg30
 z31:=Tryz.sizeOf30
 v31:=Tryz.zeroValue30
 t37:=Tryz.underlying64
 a37:=Tryz.isAgg64
 z37:=Tryz.sizeOf64
 v37:=Tryz.zeroValue64
 t70:=Tryz.underlying71
 a70:=Tryz.isAgg71
 z70:=Tryz.sizeOf71
 v70:=Tryz.zeroValue71
 t72:=Tryz.underlying73
 a72:=Tryz.isAgg73
 z72:=Tryz.sizeOf73
 v72:=Tryz.zeroValue73
 t75:=Tryz.underlying56
 a75:=Tryz.isAgg56
 z75:=Tryz.sizeOf56
 v75:=Tryz.zeroValue56
 t76:=Tryz.underlying57
 a76:=Tryz.isAgg57
 z76:=Tryz.sizeOf57
 v76:=Tryz.zeroValue57
 t127:=Tryz.underlying99
 a127:=Tryz.isAgg99
 z127:=Tryz.sizeOf99
 v127:=Tryz.zeroValue99
 t164:=Tryz.underlying121
 a164:=Tryz.isAgg121
 z164:=Tryz.sizeOf121
 v164:=Tryz.zeroValue121 }
theorem joinExtra : Builder.Extra Tryz.prog Tryz.lays156_ren where
  sizeBuilder := by kernel_rfl
  liesBuilder := by kernel_rfl
  t5 := Tryz.lays171.t5
  a5 := Tryz.lays171.a5
  z5 := Tryz.lays171.z5
  v5 := Tryz.lays171.v5
  infoByte := by kernel_rfl
  cellsByte := by kernel_rfl
  sizeByte := by kernel_rfl
  neB5 := by decide
theorem stringsJoin (xs : List (List UInt8)) (sep : List UInt8) (hz : (joinL sep xs).length ≤ 140737488355328) (hn : xs.length ≤ 1099511627776) : FnT Tryz.prog 34 [.one (.sl 1 (xs.map cStr)), .one (.v (.string (bs sep)))] (.a (.one (.v (.string (bs (joinL sep xs)))))) := by
  refine ⟨⟨_, Tryz.func34, by kernel_rfl, by kernel_rfl⟩, fun w vs F hG hv => ?_⟩
  obtain ⟨v1, vr, G1, G2, rfl, g1, ⟨v2, vr2, G3, G4, rfl, g2, ⟨rfl, rfl⟩, rfl⟩, rfl⟩ := hv
  simp only [V0r, C] at g1 g2
  obtain ⟨rfl, rfl, _⟩ := g2
  obtain ⟨a, len, cap, rfl, e1, e2, e3, e4⟩ := g1
  have hmap : (xs.map bs).map (·.data.toList) = xs := by
    rw [List.map_map]
    conv => rhs; rw [← List.map_id xs]
    exact List.map_congr_left fun x _ => bs_list x
  rcases e4 with ⟨rfl, _, _⟩ | ⟨b, off, G, rfl, _, hb, _, hR⟩
  · have hx : xs = [] := by cases xs with | nil => rfl | cons _ _ => simp at e1
    subst hx
    have hcon := Any.strings_Join_none Tryz.lays156 joinExtra a cap (bs sep) w
    change Calls Tryz.prog 34 _ _ _ at hcon
    refine hcon.mono ?_
    rintro e w' ⟨rfl, rfl⟩
    refine ⟨_, [], rfl, ?_, List.nodup_nil, by simp, Ext.refl _⟩
    simp [Vr, V0r, C]
    exact ⟨rfl, rfl⟩
  · have hlen : xs.length = len := by simpa using e1
    subst hlen
    have hcells : ∀ (j : Nat) x, (xs.map bs)[j]? = some x → w.cell? ⟨b, off + j, none⟩ = some (.string x) := fun j x hj => by
      have hj2 : (xs.map cStr)[j]? = some [.v (.string x)] := by
        rw [List.getElem?_map] at hj ⊢
        cases hx : xs[j]? with
        | none => rw [hx] at hj; cases hj
        | some y => rw [hx] at hj; cases hj; rfl
      obtain ⟨G', hM, _⟩ := hR.get hj2
      simp only [Ms, C] at hM
      obtain ⟨c, _, _, hc, ⟨rfl, _⟩, _⟩ := hM
      rw [Nat.mul_one] at hc
      exact hc
    have hcon := Any.strings_Join Tryz.lays156 joinExtra b off cap (xs.map bs) (bs sep) w hcells hb (by rw [List.length_map]; omega) (by rw [List.length_map]; exact e2) (by rw [hmap, bs_list]; exact hz)
    rw [hmap, bs_list, List.length_map] at hcon
    change Calls Tryz.prog 34 _ _ _ at hcon
    refine hcon.mono ?_
    rintro e w' ⟨rfl, hB⟩
    refine ⟨_, [], rfl, ?_, List.nodup_nil, by simp, (Ext.refl w).trans' hB.os hB.tape hB.output hB.size hB.block⟩
    simp [Vr, V0r, C]
    exact ⟨rfl, rfl⟩
end Go.Proofs.YtoealglkenhphaaGreatDoor
