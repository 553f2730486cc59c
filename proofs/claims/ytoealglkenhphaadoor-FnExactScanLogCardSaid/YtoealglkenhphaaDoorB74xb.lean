/- Merged texts. -/
import Derived.Test.YtoealglkenhphaaDoorAbsNxb
import Derived.Laws.Cover3
import Derived.Test.YtoealglkenhphaaDoorB02xb
import Derived.Test.YtoealglkenhphaaDoorAbsWxb
import Derived.Lib.Join
import Derived.Lib.ItoaNum
import Derived.Shelf.Abstract
import Derived.Shelf.Strings.OnBuilder
import Derived.Shelf.Strconv.Itoa3
import Derived.Ground.NamesProg
set_option linter.unusedVariables false
set_option linter.unusedSimpArgs false
namespace Go.Q
open Go.RowKit
section
variable {P : Program} {ops : Array Oper} {o : Oper} {σ : St} {q : Bool}
/-- A number turned into another kind. -/
theorem R_conv {t t' : TypeId} {x : Operand} {k0 k : IntKind} {n m : Int} (ho : o.op = .convert t t' x) (hg : Grd ops o σ q) (hd : o.dst.all (fun d => Nat.blt d σ.n) = true) (hx : Get σ q x (.one (.t (.v (.int k0 n))))) (hu0 : (P.underlying t).isSome = true) (hu : P.underlying t' = some (.int k)) (hm : q = true → k.wrap n = m) :
    Op1 P ops o σ (σ.put o.dst (q, .a (.one (.t (.v (.int k m)))))) :=
  .val hg hd fun I w0 a w hr hq => by
    have hv := hx.int hr hq
    obtain ⟨u0, hu0⟩ := Option.isSome_iff_exists.1 hu0
    exact ⟨_, by simp [execOp, ho, hv, Go.convert, run_underlying hu0, run_underlying hu, Conv.intToInt, hm hq], VS_v _⟩
end
end Go.Q
set_option linter.unusedVariables false
set_option linter.unusedSimpArgs false
set_option maxHeartbeats 1000000
set_option maxRecDepth 100000
namespace Go.Q
open Go.D
def bs (l : List UInt8) : ByteArray := ⟨l.toArray⟩
theorem bs_append (l m : List UInt8) : bs l ++ bs m = bs (l ++ m) := by
  apply ByteArray.ext
  rw [ByteArray.data_append]
  simp [bs]
theorem bs_nil_append (O : ByteArray) : bs [] ++ O = O := by
  apply ByteArray.ext
  rw [ByteArray.data_append]
  simp [bs]
theorem bs_size (l : List UInt8) : (bs l).size = l.length := by simp [bs, ByteArray.size]
theorem bs_list (l : List UInt8) : (bs l).data.toList = l := by simp [bs]
theorem bs_inj {l m : List UInt8} (h : bs l = bs m) : l = m := by rw [← bs_list l, ← bs_list m, h]
def numS (n : Int) : List UInt8 := Lib.decDigits n.toNat
theorem dig_small {n : Nat} (h : n < 10) : Lib.decDigits n = [UInt8.ofNat (48 + n)] := by rw [Lib.decDigits, dif_pos h]
theorem dig_more {n : Nat} (h : 10 ≤ n) : Lib.decDigits n = Lib.decDigits (n / 10) ++ [UInt8.ofNat (48 + n % 10)] := by rw [Lib.decDigits, dif_neg (by omega)]
theorem dig_len {n : Nat} (h : n < 100) : 1 ≤ (Lib.decDigits n).length ∧ (Lib.decDigits n).length ≤ 2 := by
  by_cases h1 : n < 10
  · rw [dig_small h1]; simp
  · rw [dig_more (by omega), dig_small (by omega)]; simp
theorem numS_len {n : Int} (h : n < 100) : 1 ≤ (numS n).length ∧ (numS n).length ≤ 2 := dig_len (by omega)
/-- The digits still to be written, then those written. -/
def restD (n : Nat) : List UInt8 := if n = 0 then [] else Lib.decDigits n
theorem restD_step {n : Nat} (h : n ≠ 0) : restD n = restD (n / 10) ++ [UInt8.ofNat (48 + n % 10)] := by
  unfold restD
  rw [if_neg h]
  by_cases h1 : n < 10
  · rw [dig_small h1, if_pos (by omega), Nat.mod_eq_of_lt h1]; rfl
  · rw [dig_more (by omega), if_neg (by omega)]
/-- Parts with a separator between them, as they are added one by one. -/
def joinL (sep : List UInt8) (xs : List (List UInt8)) : List UInt8 := Lib.join xs sep
theorem joinL_nil (sep : List UInt8) : joinL sep [] = [] := rfl
theorem joinL_snoc (sep : List UInt8) (xs : List (List UInt8)) (x : List UInt8) : joinL sep (xs ++ [x]) = if xs = [] then x else joinL sep xs ++ sep ++ x := by
  unfold joinL
  cases xs with
  | nil => rw [if_pos rfl]; exact Lib.join_one x sep
  | cons y r =>
    rw [if_neg (by simp), List.cons_append, Lib.join_cons, Lib.join_cons]
    simp [Lib.joinTail, List.append_assoc]
theorem joinL_at {sep : List UInt8} {α : Type} (f : α → List UInt8) {l : List α} {k : Nat} {x : α} (h : l[k]? = some x) : joinL sep ((l.take (k + 1)).map f) = if k = 0 then f x else joinL sep ((l.take k).map f) ++ sep ++ f x := by
  rw [take_at h, List.map_append, List.map_singleton, joinL_snoc]
  have hk := (List.getElem?_eq_some_iff.1 h).1
  by_cases e : k = 0
  · subst e; rw [if_pos rfl, if_pos (by simp)]
  · rw [if_neg e, if_neg (fun hh => e (by have := congrArg List.length hh; rw [List.length_map, List.length_take, List.length_nil] at this; omega))]
theorem joinL_len {sep : List UInt8} {b : Nat} {α : Type} {f : α → List UInt8} : ∀ {l : List α}, (∀ x ∈ l, (f x).length ≤ b) → (joinL sep (l.map f)).length ≤ l.length * (b + sep.length)
  | [], _ => by simp [joinL_nil]
  | x :: l, h => by
    have h1 := h x (by simp)
    have h2 : ∀ (r : List α), (∀ x ∈ r, (f x).length ≤ b) → (Lib.joinTail sep (r.map f)).length ≤ r.length * (b + sep.length) := by
      intro r
      induction r with
      | nil => intro _; simp [Lib.joinTail]
      | cons y r ih =>
        intro hr
        have h3 := hr y (by simp)
        have h4 := ih fun z hz => hr z (by simp [hz])
        simp only [Lib.joinTail, List.map_cons, List.flatten_cons, List.length_append, List.length_cons] at h4 ⊢
        rw [Nat.succ_mul]; omega
    have h5 := h2 l fun z hz => h z (by simp [hz])
    unfold joinL
    rw [List.map_cons, Lib.join_cons, List.length_append, List.length_cons, Nat.succ_mul]
    omega
def cStr (s : List UInt8) : List T := [.v (.string (bs s))]
end Go.Q
set_option linter.unusedVariables false
set_option linter.unusedSimpArgs false
set_option maxHeartbeats 1000000
set_option maxRecDepth 100000
namespace Go.Proofs.YtoealglkenhphaaDoor
open Go.RowKit Go.Q Go.D Go.Shelf
def Tryd.lays171_ren:Go.Shelf.Ren:=⟨fun|171=>37|243=>52|246=>68|283=>82|284=>83|285=>84|286=>85|129=>92|317=>91|318=>93|319=>94|320=>95|337=>98|338=>99|n=>n,fun|3=>3|9=>9|2=>2|4=>4|171=>99|0=>0|53=>92|37=>65|5=>5|173=>102|212=>117|51=>109|20=>20|213=>118|46=>91|232=>124|233=>125|n=>n,fun|17=>5|18=>6|19=>7|n=>n⟩
theorem Tryd.lays171:Go.Proofs.Lays.n171 Tryd.prog Tryd.lays171_ren:={
 mixed:=by kernel_rfl
 f129:=Tryd.func92.trans (congrArg some (by kernel_rfl))
 f171:=Tryd.func37.trans (congrArg some (by kernel_rfl))
 f243:=Tryd.func52.trans (congrArg some (by kernel_rfl))
 f246:=Tryd.func68.trans (congrArg some (by kernel_rfl))
 f283:=Tryd.func82.trans (congrArg some (by kernel_rfl))
 f284:=Tryd.func83.trans (congrArg some (by kernel_rfl))
 f285:=Tryd.func84.trans (congrArg some (by kernel_rfl))
 f286:=Tryd.func85.trans (congrArg some (by kernel_rfl))
 f317:=Tryd.func91.trans (congrArg some (by kernel_rfl))
 f318:=Tryd.func93.trans (congrArg some (by kernel_rfl))
 f319:=Tryd.func94.trans (congrArg some (by kernel_rfl))
 f320:=Tryd.func95.trans (congrArg some (by kernel_rfl))
 f337:=Tryd.func98.trans (congrArg some (by kernel_rfl))
 f338:=Tryd.func99.trans (congrArg some (by kernel_rfl))
 t0:=Tryd.underlying0
 a0:=Tryd.isAgg0
 z0:=Tryd.sizeOf0
 v0:=Tryd.zeroValue0
 t2:=Tryd.underlying2
 a2:=Tryd.isAgg2
 z2:=Tryd.sizeOf2
 v2:=Tryd.zeroValue2
 t3:=Tryd.underlying3
 a3:=Tryd.isAgg3
 z3:=Tryd.sizeOf3
 v3:=Tryd.zeroValue3
 t4:=Tryd.underlying4
 a4:=Tryd.isAgg4
 z4:=Tryd.sizeOf4
 v4:=Tryd.zeroValue4
 t5:=Tryd.underlying5
 a5:=Tryd.isAgg5
 z5:=Tryd.sizeOf5
 v5:=Tryd.zeroValue5
 t9:=Tryd.underlying9
 a9:=Tryd.isAgg9
 z9:=Tryd.sizeOf9
 v9:=Tryd.zeroValue9
 t20:=Tryd.underlying20
 a20:=Tryd.isAgg20
 z20:=Tryd.sizeOf20
 v20:=Tryd.zeroValue20
 t37:=Tryd.underlying65
 a37:=Tryd.isAgg65
 z37:=Tryd.sizeOf65
 v37:=Tryd.zeroValue65
 t46:=Tryd.underlying91
 a46:=Tryd.isAgg91
 z46:=Tryd.sizeOf91
 v46:=Tryd.zeroValue91
 t51:=Tryd.underlying109
 a51:=Tryd.isAgg109
 z51:=Tryd.sizeOf109
 v51:=Tryd.zeroValue109
 t53:=Tryd.underlying92
 a53:=Tryd.isAgg92
 z53:=Tryd.sizeOf92
 v53:=Tryd.zeroValue92
 t171:=Tryd.underlying99
 a171:=Tryd.isAgg99
 z171:=Tryd.sizeOf99
 v171:=Tryd.zeroValue99
 t173:=Tryd.underlying102
 a173:=Tryd.isAgg102
 z173:=Tryd.sizeOf102
 v173:=Tryd.zeroValue102
 t212:=Tryd.underlying117
 a212:=Tryd.isAgg117
 z212:=Tryd.sizeOf117
 v212:=Tryd.zeroValue117
 t213:=Tryd.underlying118
 a213:=Tryd.isAgg118
 z213:=Tryd.sizeOf118
 t232:=Tryd.underlying124
 a232:=Tryd.isAgg124
 z232:=Tryd.sizeOf124
 v232:=Tryd.zeroValue124
 t233:=Tryd.underlying125
 a233:=Tryd.isAgg125
 z233:=Tryd.sizeOf125
 v233:=Tryd.zeroValue125
 g17:=by kernel_rfl
 g18:=by kernel_rfl
 g19:=by kernel_rfl }
theorem strconvItoa (n : Int) (h0 : 0 ≤ n) (h1 : n < 100) : FnT Tryd.prog 37 [.one (.v (.int .i64 n))] (.a (.one (.v (.string (bs (numS n)))))) := by
  refine ⟨⟨_, Tryd.func37, by kernel_rfl, by kernel_rfl⟩, fun w vs F hG hv => ?_⟩
  obtain ⟨v1, vr, G1, G2, rfl, g1, ⟨rfl, rfl⟩, rfl⟩ := hv
  simp only [V0r, C] at g1
  obtain ⟨rfl, rfl, _⟩ := g1
  have hcon := Any.strconv_Itoa_small Tryd.lays171 n.toNat (by omega) w
  change Calls Tryd.prog 37 _ _ _ at hcon
  rw [Int.toNat_of_nonneg h0] at hcon
  refine hcon.mono ?_
  rintro e w' ⟨rfl, rfl⟩
  refine ⟨_, [], rfl, ?_, List.nodup_nil, by simp, Ext.refl _⟩
  simp [Vr, V0r, C]
  exact ⟨rfl, rfl⟩
def Tryd.lays156_ren:Go.Shelf.Ren:=⟨fun|156=>55|165=>71|166=>72|169=>73|240=>86|241=>87|276=>96|277=>97|n=>n,fun|31=>38|9=>9|3=>3|4=>4|0=>0|20=>20|72=>86|76=>62|70=>84|37=>65|75=>61|127=>104|164=>120|5=>5|80=>88|n=>n,fun|n=>n⟩
theorem Tryd.lays156:Go.Proofs.Lays.n156 Tryd.prog Tryd.lays156_ren:={
 mixed:=by kernel_rfl
 f156:=Tryd.func55.trans (congrArg some (by kernel_rfl))
 f165:=Tryd.func71.trans (congrArg some (by kernel_rfl))
 f166:=Tryd.func72.trans (congrArg some (by kernel_rfl))
 f169:=Tryd.func73.trans (congrArg some (by kernel_rfl))
 f240:=Tryd.func86.trans (congrArg some (by kernel_rfl))
 f241:=Tryd.func87.trans (congrArg some (by kernel_rfl))
 f276:=Tryd.func96.trans (congrArg some (by kernel_rfl))
 f277:=Tryd.func97.trans (congrArg some (by kernel_rfl))
 t0:=Tryd.underlying0
 a0:=Tryd.isAgg0
 z0:=Tryd.sizeOf0
 v0:=Tryd.zeroValue0
 t3:=Tryd.underlying3
 a3:=Tryd.isAgg3
 z3:=Tryd.sizeOf3
 v3:=Tryd.zeroValue3
 t4:=Tryd.underlying4
 a4:=Tryd.isAgg4
 z4:=Tryd.sizeOf4
 v4:=Tryd.zeroValue4
 t9:=Tryd.underlying9
 a9:=Tryd.isAgg9
 z9:=Tryd.sizeOf9
 v9:=Tryd.zeroValue9
 t20:=Tryd.underlying20
 a20:=Tryd.isAgg20
 z20:=Tryd.sizeOf20
 v20:=Tryd.zeroValue20
 t31:=Tryd.underlying38
 a31:=Tryd.isAgg38
 z31:=Tryd.sizeOf38
 v31:=Tryd.zeroValue38
 t37:=Tryd.underlying65
 a37:=Tryd.isAgg65
 z37:=Tryd.sizeOf65
 v37:=Tryd.zeroValue65
 t70:=Tryd.underlying84
 a70:=Tryd.isAgg84
 z70:=Tryd.sizeOf84
 v70:=Tryd.zeroValue84
 t72:=Tryd.underlying86
 a72:=Tryd.isAgg86
 z72:=Tryd.sizeOf86
 v72:=Tryd.zeroValue86
 t75:=Tryd.underlying61
 a75:=Tryd.isAgg61
 z75:=Tryd.sizeOf61
 v75:=Tryd.zeroValue61
 t76:=Tryd.underlying62
 a76:=Tryd.isAgg62
 z76:=Tryd.sizeOf62
 v76:=Tryd.zeroValue62
 t127:=Tryd.underlying104
 a127:=Tryd.isAgg104
 z127:=Tryd.sizeOf104
 v127:=Tryd.zeroValue104
 t164:=Tryd.underlying120
 a164:=Tryd.isAgg120
 z164:=Tryd.sizeOf120
 v164:=Tryd.zeroValue120 }
theorem joinExtra : Builder.Extra Tryd.prog Tryd.lays156_ren where
  sizeBuilder := by kernel_rfl
  liesBuilder := by kernel_rfl
  t5 := Tryd.lays171.t5
  a5 := Tryd.lays171.a5
  z5 := Tryd.lays171.z5
  v5 := Tryd.lays171.v5
  infoByte := by kernel_rfl
  cellsByte := by kernel_rfl
  sizeByte := by kernel_rfl
  neB5 := by decide
theorem stringsJoin (xs : List (List UInt8)) (sep : List UInt8) (hz : (joinL sep xs).length ≤ 140737488355328) (hn : xs.length ≤ 1099511627776) : FnT Tryd.prog 55 [.one (.sl 1 (xs.map cStr)), .one (.v (.string (bs sep)))] (.a (.one (.v (.string (bs (joinL sep xs)))))) := by
  refine ⟨⟨_, Tryd.func55, by kernel_rfl, by kernel_rfl⟩, fun w vs F hG hv => ?_⟩
  obtain ⟨v1, vr, G1, G2, rfl, g1, ⟨v2, vr2, G3, G4, rfl, g2, ⟨rfl, rfl⟩, rfl⟩, rfl⟩ := hv
  simp only [V0r, C] at g1 g2
  obtain ⟨rfl, rfl, _⟩ := g2
  obtain ⟨a, len, cap, rfl, e1, e2, e3, e4⟩ := g1
  have hmap : (xs.map bs).map (·.data.toList) = xs := by
    rw [List.map_map]
    conv => rhs; rw [← List.map_id xs]
    exact List.map_congr_left fun x _ => bs_list x
  rcases e4 with ⟨rfl, _, _⟩ | ⟨b, off, G, rfl, _, hb, _, hR⟩
  · have hx : xs = [] := by cases xs with | nil => rfl | cons _ _ => simp at e1
    subst hx
    have hcon := Any.strings_Join_none Tryd.lays156 joinExtra a cap (bs sep) w
    change Calls Tryd.prog 55 _ _ _ at hcon
    refine hcon.mono ?_
    rintro e w' ⟨rfl, rfl⟩
    refine ⟨_, [], rfl, ?_, List.nodup_nil, by simp, Ext.refl _⟩
    simp [Vr, V0r, C]
    exact ⟨rfl, rfl⟩
  · have hlen : xs.length = len := by simpa using e1
    subst hlen
    have hcells : ∀ (j : Nat) x, (xs.map bs)[j]? = some x → w.cell? ⟨b, off + j, none⟩ = some (.string x) := fun j x hj => by
      have hj2 : (xs.map cStr)[j]? = some [.v (.string x)] := by
        rw [List.getElem?_map] at hj ⊢
        cases hx : xs[j]? with
        | none => rw [hx] at hj; cases hj
        | some y => rw [hx] at hj; cases hj; rfl
      obtain ⟨G', hM, _⟩ := hR.get hj2
      simp only [Ms, C] at hM
      obtain ⟨c, _, _, hc, ⟨rfl, _⟩, _⟩ := hM
      rw [Nat.mul_one] at hc
      exact hc
    have hcon := Any.strings_Join Tryd.lays156 joinExtra b off cap (xs.map bs) (bs sep) w hcells hb (by rw [List.length_map]; omega) (by rw [List.length_map]; exact e2) (by rw [hmap, bs_list]; exact hz)
    rw [hmap, bs_list, List.length_map] at hcon
    change Calls Tryd.prog 55 _ _ _ at hcon
    refine hcon.mono ?_
    rintro e w' ⟨rfl, hB⟩
    refine ⟨_, [], rfl, ?_, List.nodup_nil, by simp, (Ext.refl w).trans' hB.os hB.tape hB.output hB.size hB.block⟩
    simp [Vr, V0r, C]
    exact ⟨rfl, rfl⟩
end Go.Proofs.YtoealglkenhphaaDoor
