import Derived.Test.YtbkhopfpejhnlaaGreatDoorOpenBta
import Derived.Test.YtbkhopfpejhnlaaGreatDoorB102ta
import Derived.Test.YtbkhopfpejhnlaaGreatDoorB34ta
import Derived.Lib.Join
import Derived.Lib.ItoaNum
import Derived.Test.YtbkhopfpejhnlaaGreatDoorAbsKta
import Derived.Test.YtbkhopfpejhnlaaGreatDoorAbsNta
import Derived.Shelf.Abstract
import Derived.Shelf.Strings.OnBuilder
import Derived.Shelf.Strconv.Itoa3
import Derived.Ground.NamesProg
set_option linter.unusedVariables false
set_option linter.unusedSimpArgs false
set_option maxHeartbeats 1000000
set_option maxRecDepth 100000
namespace Go.Q
open Go.D
def bs (l : List UInt8) : ByteArray := ⟨l.toArray⟩
theorem bs_append (l m : List UInt8) : bs l ++ bs m = bs (l ++ m) := by
 apply ByteArray.ext
 rw [ByteArray.data_append]
 simp [bs]
theorem bs_nil_append (O : ByteArray) : bs [] ++ O = O := by
 apply ByteArray.ext
 rw [ByteArray.data_append]
 simp [bs]
theorem bs_size (l : List UInt8) : (bs l).size = l.length := by simp [bs, ByteArray.size]
theorem bs_list (l : List UInt8) : (bs l).data.toList = l := by simp [bs]
theorem bs_inj {l m : List UInt8} (h : bs l = bs m) : l = m := by rw [← bs_list l, ← bs_list m, h]
def numS (n : Int) : List UInt8 := Lib.decDigits n.toNat
theorem dig_small {n : Nat} (h : n < 10) : Lib.decDigits n = [UInt8.ofNat (48 + n)] := by rw [Lib.decDigits, dif_pos h]
theorem dig_more {n : Nat} (h : 10 ≤ n) : Lib.decDigits n = Lib.decDigits (n / 10) ++ [UInt8.ofNat (48 + n % 10)] := by rw [Lib.decDigits, dif_neg (by omega)]
theorem dig_len {n : Nat} (h : n < 100) : 1 ≤ (Lib.decDigits n).length ∧ (Lib.decDigits n).length ≤ 2 := by
 by_cases h1 : n < 10
 · rw [dig_small h1]; simp
 · rw [dig_more (by omega), dig_small (by omega)]; simp
theorem numS_len {n : Int} (h : n < 100) : 1 ≤ (numS n).length ∧ (numS n).length ≤ 2 := dig_len (by omega)
def restD (n : Nat) : List UInt8 := if n = 0 then [] else Lib.decDigits n
theorem restD_step {n : Nat} (h : n ≠ 0) : restD n = restD (n / 10) ++ [UInt8.ofNat (48 + n % 10)] := by
 unfold restD
 rw [if_neg h]
 by_cases h1 : n < 10
 · rw [dig_small h1, if_pos (by omega), Nat.mod_eq_of_lt h1]; rfl
 · rw [dig_more (by omega), if_neg (by omega)]
def joinL (sep : List UInt8) (xs : List (List UInt8)) : List UInt8 := Lib.join xs sep
theorem joinL_nil (sep : List UInt8) : joinL sep [] = [] := rfl
theorem joinL_snoc (sep : List UInt8) (xs : List (List UInt8)) (x : List UInt8) : joinL sep (xs ++ [x]) = if xs = [] then x else joinL sep xs ++ sep ++ x := by
 unfold joinL
 cases xs with
 | nil => rw [if_pos rfl]; exact Lib.join_one x sep
 | cons y r =>
  rw [if_neg (by simp), List.cons_append, Lib.join_cons, Lib.join_cons]
  simp [Lib.joinTail, List.append_assoc]
theorem joinL_at {sep : List UInt8} {α : Type} (f : α → List UInt8) {l : List α} {k : Nat} {x : α} (h : l[k]? = some x) : joinL sep ((l.take (k + 1)).map f) = if k = 0 then f x else joinL sep ((l.take k).map f) ++ sep ++ f x := by
 rw [take_at h, List.map_append, List.map_singleton, joinL_snoc]
 have hk := (List.getElem?_eq_some_iff.1 h).1
 by_cases e : k = 0
 · subst e; rw [if_pos rfl, if_pos (by simp)]
 · rw [if_neg e, if_neg (fun hh => e (by have := congrArg List.length hh; rw [List.length_map, List.length_take, List.length_nil] at this; omega))]
theorem joinL_len {sep : List UInt8} {b : Nat} {α : Type} {f : α → List UInt8} : ∀ {l : List α}, (∀ x ∈ l, (f x).length ≤ b) → (joinL sep (l.map f)).length ≤ l.length * (b + sep.length)
 | [], _ => by simp [joinL_nil]
 | x :: l, h => by
  have h1 := h x (by simp)
  have h2 : ∀ (r : List α), (∀ x ∈ r, (f x).length ≤ b) → (Lib.joinTail sep (r.map f)).length ≤ r.length * (b + sep.length) := by
   intro r
   induction r with
   | nil => intro _; simp [Lib.joinTail]
   | cons y r ih =>
    intro hr
    have h3 := hr y (by simp)
    have h4 := ih fun z hz => hr z (by simp [hz])
    simp only [Lib.joinTail, List.map_cons, List.flatten_cons, List.length_append, List.length_cons] at h4 ⊢
    rw [Nat.succ_mul]; omega
  have h5 := h2 l fun z hz => h z (by simp [hz])
  unfold joinL
  rw [List.map_cons, Lib.join_cons, List.length_append, List.length_cons, Nat.succ_mul]
  omega
def cStr (s : List UInt8) : List T := [.v (.string (bs s))]
end Go.Q
set_option maxHeartbeats 1000000
set_option maxRecDepth 100000
namespace Go.Q
open Go.D
structure SO {α : Type} (lt : α → α → Bool) : Prop where
 irr : ∀ x, lt x x = false
 tra : ∀ x y z, lt x y = true → lt y z = true → lt x z = true
 tri : ∀ x y, lt x y = true ∨ x = y ∨ lt y x = true
section
variable {α : Type} {lt : α → α → Bool}
end
section
variable {α : Type} [DecidableEq α] {lt : α → α → Bool}
end
instance : Inhabited TPair := ⟨⟨0, 0⟩⟩
end Go.Q
namespace Go.Q
open Go.D
end Go.Q
namespace Go.Proofs.YtbkhopfpejhnlaaGreatDoor
open Go.RowKit Go.Q Go.D
end Go.Proofs.YtbkhopfpejhnlaaGreatDoor
set_option maxHeartbeats 1000000
set_option maxRecDepth 100000
namespace Go.Q
open Go.D
end Go.Q
namespace Go.Proofs.YtbkhopfpejhnlaaGreatDoor
open Go.RowKit Go.Q Go.D
end Go.Proofs.YtbkhopfpejhnlaaGreatDoor
namespace Go.D
open Go.Q
end Go.D
set_option maxHeartbeats 1000000
set_option maxRecDepth 100000
namespace Go.Q
open Go.D
end Go.Q
namespace Go.Proofs.YtbkhopfpejhnlaaGreatDoor
open Go.RowKit Go.Q Go.D
end Go.Proofs.YtbkhopfpejhnlaaGreatDoor
set_option maxHeartbeats 1000000
set_option maxRecDepth 100000
namespace Go.Q
open Go.D
end Go.Q
namespace Go.Proofs.YtbkhopfpejhnlaaGreatDoor
open Go.RowKit Go.Q Go.D
end Go.Proofs.YtbkhopfpejhnlaaGreatDoor
set_option maxHeartbeats 1000000
set_option maxRecDepth 100000
namespace Go.Q
open Go.D
def letNames : List (List UInt8) := [[97], [97, 45], [98], [98, 45], [99], [99, 45], [48], [49], [50]]
def letS (k : Int) : List UInt8 := letNames[k.toNat]?.getD []
theorem letS_len (k : Int) : (letS k).length ≤ 2 := by
 unfold letS
 by_cases h : k.toNat < 9
 · have h9 : k.toNat = 0 ∨ k.toNat = 1 ∨ k.toNat = 2 ∨ k.toNat = 3 ∨ k.toNat = 4 ∨ k.toNat = 5 ∨ k.toNat = 6 ∨ k.toNat = 7 ∨ k.toNat = 8 := by omega
   rcases h9 with e | e | e | e | e | e | e | e | e <;> rw [e] <;> decide
 · rw [List.getElem?_eq_none (by simp [letNames]; omega)]; simp
theorem letS_get {k : Int} (h0 : 0 ≤ k) (h8 : k ≤ 8) : (letNames.map cStr)[k.toNat]? = some (cStr (letS k)) := by
 have hk : k.toNat < letNames.length := by simp [letNames]; omega
 rw [List.getElem?_map, List.getElem?_eq_getElem hk]
 unfold letS
 rw [List.getElem?_eq_getElem hk]; rfl
end Go.Q
set_option maxHeartbeats 1000000
set_option maxRecDepth 100000
namespace Go.Proofs.YtbkhopfpejhnlaaGreatDoor
open Go.RowKit Go.Q Go.D Go.Shelf
def Tryz.lays171_ren:Go.Shelf.Ren:=⟨fun|171=>91|243=>119|246=>140|283=>164|284=>165|285=>166|286=>167|129=>160|317=>177|318=>178|319=>179|320=>180|337=>184|338=>185|n=>n,fun|3=>3|9=>9|2=>2|4=>4|171=>185|0=>0|53=>179|37=>22|5=>5|173=>187|212=>202|51=>177|20=>20|213=>203|46=>150|232=>216|233=>217|n=>n,fun|17=>3|18=>6|19=>7|n=>n⟩
theorem Tryz.lays171:Go.Proofs.Lays.n171 Tryz.prog Tryz.lays171_ren:={
 mixed:=by kernel_rfl
 f129:=Tryz.func160.trans (congrArg some (by kernel_rfl))
 f171:=Tryz.func91.trans (congrArg some (by kernel_rfl))
 f243:=Tryz.func119.trans (congrArg some (by kernel_rfl))
 f246:=Tryz.func140.trans (congrArg some (by kernel_rfl))
 f283:=Tryz.func164.trans (congrArg some (by kernel_rfl))
 f284:=Tryz.func165.trans (congrArg some (by kernel_rfl))
 f285:=Tryz.func166.trans (congrArg some (by kernel_rfl))
 f286:=Tryz.func167.trans (congrArg some (by kernel_rfl))
 f317:=Tryz.func177.trans (congrArg some (by kernel_rfl))
 f318:=Tryz.func178.trans (congrArg some (by kernel_rfl))
 f319:=Tryz.func179.trans (congrArg some (by kernel_rfl))
 f320:=Tryz.func180.trans (congrArg some (by kernel_rfl))
 f337:=Tryz.func184.trans (congrArg some (by kernel_rfl))
 f338:=Tryz.func185.trans (congrArg some (by kernel_rfl))
 t0:=Tryz.underlying0
 a0:=Tryz.isAgg0
 z0:=Tryz.sizeOf0
 v0:=Tryz.zeroValue0
 t2:=Tryz.underlying2
 a2:=Tryz.isAgg2
 z2:=Tryz.sizeOf2
 v2:=Tryz.zeroValue2
 t3:=Tryz.underlying3
 a3:=Tryz.isAgg3
 z3:=Tryz.sizeOf3
 v3:=Tryz.zeroValue3
 t4:=Tryz.underlying4
 a4:=Tryz.isAgg4
 z4:=Tryz.sizeOf4
 v4:=Tryz.zeroValue4
 t5:=Tryz.underlying5
 a5:=Tryz.isAgg5
 z5:=Tryz.sizeOf5
 v5:=Tryz.zeroValue5
 t9:=Tryz.underlying9
 a9:=Tryz.isAgg9
 z9:=Tryz.sizeOf9
 v9:=Tryz.zeroValue9
 t20:=Tryz.underlying20
 a20:=Tryz.isAgg20
 z20:=Tryz.sizeOf20
 v20:=Tryz.zeroValue20
 t37:=Tryz.underlying22
 a37:=Tryz.isAgg22
 z37:=Tryz.sizeOf22
 v37:=Tryz.zeroValue22
 t46:=Tryz.underlying150
 a46:=Tryz.isAgg150
 z46:=Tryz.sizeOf150
 v46:=Tryz.zeroValue150
 t51:=Tryz.underlying177
 a51:=Tryz.isAgg177
 z51:=Tryz.sizeOf177
 v51:=Tryz.zeroValue177
 t53:=Tryz.underlying179
 a53:=Tryz.isAgg179
 z53:=Tryz.sizeOf179
 v53:=Tryz.zeroValue179
 t171:=Tryz.underlying185
 a171:=Tryz.isAgg185
 z171:=Tryz.sizeOf185
 v171:=Tryz.zeroValue185
 t173:=Tryz.underlying187
 a173:=Tryz.isAgg187
 z173:=Tryz.sizeOf187
 v173:=Tryz.zeroValue187
 t212:=Tryz.underlying202
 a212:=Tryz.isAgg202
 z212:=Tryz.sizeOf202
 v212:=Tryz.zeroValue202
 t213:=Tryz.underlying203
 a213:=Tryz.isAgg203
 z213:=Tryz.sizeOf203
 t232:=Tryz.underlying216
 a232:=Tryz.isAgg216
 z232:=Tryz.sizeOf216
 v232:=Tryz.zeroValue216
 t233:=Tryz.underlying217
 a233:=Tryz.isAgg217
 z233:=Tryz.sizeOf217
 v233:=Tryz.zeroValue217
 g17:=by kernel_rfl
 g18:=by kernel_rfl
 g19:=by kernel_rfl }
theorem strconvItoa (n : Int) (h0 : 0 ≤ n) (h1 : n < 100) : FnT Tryz.prog 91 [.one (.v (.int .i64 n))] (.a (.one (.v (.string (bs (numS n)))))) := by
 refine ⟨⟨_, Tryz.func91, by kernel_rfl, by kernel_rfl⟩, fun w vs F hG hv => ?_⟩
 obtain ⟨v1, vr, G1, G2, rfl, g1, ⟨rfl, rfl⟩, rfl⟩ := hv
 simp only [V0r, C] at g1
 obtain ⟨rfl, rfl, _⟩ := g1
 have hcon := Any.strconv_Itoa_small Tryz.lays171 n.toNat (by omega) w
 change Calls Tryz.prog 91 _ _ _ at hcon
 rw [Int.toNat_of_nonneg h0] at hcon
 refine hcon.mono ?_
 rintro e w' ⟨rfl, rfl⟩
 refine ⟨_, [], rfl, ?_, List.nodup_nil, by simp, Ext.refl _⟩
 simp [Vr, V0r, C]
 exact ⟨rfl, rfl⟩
def Tryz.lays156_ren:Go.Shelf.Ren:=⟨fun|156=>83|165=>111|166=>112|169=>113|240=>134|241=>135|276=>161|277=>162|n=>n,fun|31=>87|9=>9|3=>3|4=>4|0=>0|20=>20|72=>140|76=>122|70=>138|37=>22|75=>121|127=>156|164=>180|5=>5|80=>142|n=>n,fun|n=>n⟩
theorem Tryz.lays156:Go.Proofs.Lays.n156 Tryz.prog Tryz.lays156_ren:={
 mixed:=by kernel_rfl
 f156:=Tryz.func83.trans (congrArg some (by kernel_rfl))
 f165:=Tryz.func111.trans (congrArg some (by kernel_rfl))
 f166:=Tryz.func112.trans (congrArg some (by kernel_rfl))
 f169:=Tryz.func113.trans (congrArg some (by kernel_rfl))
 f240:=Tryz.func134.trans (congrArg some (by kernel_rfl))
 f241:=Tryz.func135.trans (congrArg some (by kernel_rfl))
 f276:=Tryz.func161.trans (congrArg some (by kernel_rfl))
 f277:=Tryz.func162.trans (congrArg some (by kernel_rfl))
 t0:=Tryz.underlying0
 a0:=Tryz.isAgg0
 z0:=Tryz.sizeOf0
 v0:=Tryz.zeroValue0
 t3:=Tryz.underlying3
 a3:=Tryz.isAgg3
 z3:=Tryz.sizeOf3
 v3:=Tryz.zeroValue3
 t4:=Tryz.underlying4
 a4:=Tryz.isAgg4
 z4:=Tryz.sizeOf4
 v4:=Tryz.zeroValue4
 t9:=Tryz.underlying9
 a9:=Tryz.isAgg9
 z9:=Tryz.sizeOf9
 v9:=Tryz.zeroValue9
 t20:=Tryz.underlying20
 a20:=Tryz.isAgg20
 z20:=Tryz.sizeOf20
 v20:=Tryz.zeroValue20
 t31:=Tryz.underlying87
 a31:=Tryz.isAgg87
 z31:=Tryz.sizeOf87
 v31:=Tryz.zeroValue87
 t37:=Tryz.underlying22
 a37:=Tryz.isAgg22
 z37:=Tryz.sizeOf22
 v37:=Tryz.zeroValue22
 t70:=Tryz.underlying138
 a70:=Tryz.isAgg138
 z70:=Tryz.sizeOf138
 v70:=Tryz.zeroValue138
 t72:=Tryz.underlying140
 a72:=Tryz.isAgg140
 z72:=Tryz.sizeOf140
 v72:=Tryz.zeroValue140
 t75:=Tryz.underlying121
 a75:=Tryz.isAgg121
 z75:=Tryz.sizeOf121
 v75:=Tryz.zeroValue121
 t76:=Tryz.underlying122
 a76:=Tryz.isAgg122
 z76:=Tryz.sizeOf122
 v76:=Tryz.zeroValue122
 t127:=Tryz.underlying156
 a127:=Tryz.isAgg156
 z127:=Tryz.sizeOf156
 v127:=Tryz.zeroValue156
 t164:=Tryz.underlying180
 a164:=Tryz.isAgg180
 z164:=Tryz.sizeOf180
 v164:=Tryz.zeroValue180 }
theorem joinExtra : Builder.Extra Tryz.prog Tryz.lays156_ren where
 sizeBuilder := by kernel_rfl
 liesBuilder := by kernel_rfl
 t5 := Tryz.lays171.t5
 a5 := Tryz.lays171.a5
 z5 := Tryz.lays171.z5
 v5 := Tryz.lays171.v5
 infoByte := by kernel_rfl
 cellsByte := by kernel_rfl
 sizeByte := by kernel_rfl
 neB5 := by decide
theorem stringsJoin (xs : List (List UInt8)) (sep : List UInt8) (hz : (joinL sep xs).length ≤ 140737488355328) (hn : xs.length ≤ 1099511627776) : FnT Tryz.prog 83 [.one (.sl 1 (xs.map cStr)), .one (.v (.string (bs sep)))] (.a (.one (.v (.string (bs (joinL sep xs)))))) := by
 refine ⟨⟨_, Tryz.func83, by kernel_rfl, by kernel_rfl⟩, fun w vs F hG hv => ?_⟩
 obtain ⟨v1, vr, G1, G2, rfl, g1, ⟨v2, vr2, G3, G4, rfl, g2, ⟨rfl, rfl⟩, rfl⟩, rfl⟩ := hv
 simp only [V0r, C] at g1 g2
 obtain ⟨rfl, rfl, _⟩ := g2
 obtain ⟨a, len, cap, rfl, e1, e2, e3, e4⟩ := g1
 have hmap : (xs.map bs).map (·.data.toList) = xs := by
  rw [List.map_map]
  conv => rhs; rw [← List.map_id xs]
  exact List.map_congr_left fun x _ => bs_list x
 rcases e4 with ⟨rfl, _, _⟩ | ⟨b, off, G, rfl, _, hb, _, hR⟩
 · have hx : xs = [] := by cases xs with | nil => rfl | cons _ _ => simp at e1
   subst hx
   have hcon := Any.strings_Join_none Tryz.lays156 joinExtra a cap (bs sep) w
   change Calls Tryz.prog 83 _ _ _ at hcon
   refine hcon.mono ?_
   rintro e w' ⟨rfl, rfl⟩
   refine ⟨_, [], rfl, ?_, List.nodup_nil, by simp, Ext.refl _⟩
   simp [Vr, V0r, C]
   exact ⟨rfl, rfl⟩
 · have hlen : xs.length = len := by simpa using e1
   subst hlen
   have hcells : ∀ (j : Nat) x, (xs.map bs)[j]? = some x → w.cell? ⟨b, off + j, none⟩ = some (.string x) := fun j x hj => by
    have hj2 : (xs.map cStr)[j]? = some [.v (.string x)] := by
     rw [List.getElem?_map] at hj ⊢
     cases hx : xs[j]? with
     | none => rw [hx] at hj; cases hj
     | some y => rw [hx] at hj; cases hj; rfl
    obtain ⟨G', hM, _⟩ := hR.get hj2
    simp only [Ms, C] at hM
    obtain ⟨c, _, _, hc, ⟨rfl, _⟩, _⟩ := hM
    rw [Nat.mul_one] at hc
    exact hc
   have hcon := Any.strings_Join Tryz.lays156 joinExtra b off cap (xs.map bs) (bs sep) w hcells hb (by rw [List.length_map]; omega) (by rw [List.length_map]; exact e2) (by rw [hmap, bs_list]; exact hz)
   rw [hmap, bs_list, List.length_map] at hcon
   change Calls Tryz.prog 83 _ _ _ at hcon
   refine hcon.mono ?_
   rintro e w' ⟨rfl, hB⟩
   refine ⟨_, [], rfl, ?_, List.nodup_nil, by simp, (Ext.refl w).trans' hB.os hB.tape hB.output hB.size hB.block⟩
   simp [Vr, V0r, C]
   exact ⟨rfl, rfl⟩
end Go.Proofs.YtbkhopfpejhnlaaGreatDoor
set_option maxHeartbeats 1000000
set_option maxRecDepth 100000
namespace Go.Proofs.YtbkhopfpejhnlaaGreatDoor
open Go.RowKit Go.Q Go.D
theorem implFormatInt (n : Int) (h0 : 0 ≤ n) (h1 : n < 100) : FnT Tryz.prog 62 [.one (.v (.int .i64 n))] (.a (.one (.v (.string (bs (numS n)))))) := by
 refine FnT.walk Tryz.func62 U (by kernel_rfl) Tryz.ntmps62 U fun hlen w0 => ?_
 try simp [cEdge, cGraph, cChange, cBatch, cHistory] at hlen
 refine AW.sr ?_
 refine AWl.ac ?_
 refine AWl.nil (AW.sr ?_)
 refine AWl.mv ?_
 refine AWl.p (R_callz (FnT.fr (strconvItoa n h0 h1)) U (.no U) U (.cons (.tm U) U .nil)) U ?_
 refine AWl.av ?_
 refine AWl.nil (AW.ret ?_)
 refine Res.v U U ?_
 rfl
theorem specFormatInt (n : Int) (h0 : 0 ≤ n) (h1 : n < 100) : FnT Tryz.prog 67 [.one (.v (.int .i64 n))] (.a (.one (.v (.string (bs (numS n)))))) := by
 obtain ⟨n0, rfl⟩ := Int.eq_ofNat_of_zero_le h0
 refine FnT.walk Tryz.func67 U (by kernel_rfl) Tryz.ntmps67 U fun hlen w0 => ?_
 try simp [cEdge, cGraph, cChange, cBatch, cHistory] at hlen
 have hn0 : n0 < 100 := by omega
 refine AW.sr ?_
 refine AWl.ac ?_
 refine AWl.nil (AW.seq ?_)
 refine AW.sr ?_
 refine AWl.mv ?_
 refine AWl.p (R_eq U (.no U) U (.tm U) (.const U)) U ?_
 refine AWl.nil ?_
 refine AW.cond (.tm U) (fun h7 => ?_) (fun h7 => ?_)
 · skip
   try simp at h7
   refine AW.sr ?_
   refine AWl.ac ?_
   refine AWl.nil (AW.ret ?_)
   refine Res.v U U ?_
   (have e : n0 = 0 := (by omega); subst e; unfold numS; rw [dig_small (by simp)]; rfl)
 · skip
   try simp at h7
   refine AW.skip ?_
   refine AW.sr ?_
   refine AWl.ac ?_
   refine AWl.nil (AW.sr ?_)
   refine AWl.mv ?_
   refine AWl.p (R_lt U (.no U) U (.tm U) (.const U)) U ?_
   refine AWl.av ?_
   refine AWl.nil (AW.seq ?_)
   refine AW.block ?_
   refine AW.loop2 (fun (m : Nat) (O : ByteArray) => (m < 100 ∧ O.size + 2 * m ≤ 1000) ∧ bs (restD n0) = bs (restD m) ++ O) (fun (m : Nat) (O : ByteArray) => ⟨_, [(0, (true, .a (.one (.t (.v (.int .i64 (m : Nat))))))), (3, (true, .a (.one (.t (.v (.string O)))))), (2, _), (4, _)], []⟩) (fun (m : Nat) (O : ByteArray) => m) (n0) (⟨#[]⟩) ⟨⟨by omega, by simp [ByteArray.size]; omega⟩, (by rw [show (⟨#[]⟩ : ByteArray) = bs [] from U, bs_append, List.append_nil])⟩ (Le.sub0 U ⟨U, U, U, U, Y⟩ trivial) ?_
   rintro m O ⟨hk, he⟩
   refine AW.seq ?_
   refine AW.sr ?_
   refine AWl.mv ?_
   refine AWl.p (R_ne U (.no U) U (.tm U) (.const U)) U ?_
   refine AWl.nil ?_
   refine AW.cond (.tm U) (fun h11 => ?_) (fun h11 => ?_)
   · skip
     try simp at h11
     have hm0 : m ≠ 0 := by (first | omega | (simp at h11; omega))
     refine AW.skip ?_
     refine AW.block ?_
     refine AW.sr ?_
     refine AWl.mv ?_
     refine AWl.p (R_rem U (.no U) U (.tm U) (.const U) (fun _ => by omega)) U ?_
     refine AWl.av ?_
     refine AWl.nil (AW.seq ?_)
     refine AW.sr ?_
     refine AWl.mv ?_
     refine AWl.p (R_lt U (.no U) U (.tm U) (.const U)) U ?_
     refine AWl.nil ?_
     refine AW.cond (.tm U) (fun h15 => ?_) (fun h15 => ?_)
     · exact absurd h15 (by (first | omega | (simp at h15; omega)))
     · skip
       try simp at h15
       refine AW.skip ?_
       refine AW.seq ?_
       refine AW.le (σ' := ⟨_, [(0, _), (2, _), (3, _), (4, _), (5, _)], []⟩) (Le.sub0 U ⟨U, U, U, U, U, Y⟩ trivial) ?_
       refine AW.region ?_
       refine AWl.mv ?_
       refine AWl.p (R_add U (.no U) U (.const U) (.tm U) (fun _ => by omega)) U ?_
       refine AWl.p (R_conv U (.no U) U (.tm U) (by rw [Tryz.underlying3]; rfl) Tryz.underlying5 (fun _ => (show IntKind.u8.wrap _ = (48 + (m : Int) % 10) by simp [IntKind.wrap, IntKind.bits]; omega))) U ?_
       refine AWl.p (R_listz (xs := [.tmp 20]) (rows := [[.v (.int .u8 (48 + (m : Int) % 10))]]) U U U (.cons (.tm U) U U .nil) Tryz.underlying22 in5 U U (U)) U ?_
       refine AWl.p (R_byteStr U (.no U) U (.tm U) Tryz.underlying22 Tryz.underlying5 Tryz.underlying9) U ?_
       refine AWl.mv ?_
       refine AWl.p (R_cat U (.no U) U (.tm U) (.tm U) (fun _ => by have : (⟨#[UInt8.ofNat ((48 + (m : Int) % 10)).toNat]⟩ : ByteArray).size = 1 := U; omega)) U ?_
       refine AWl.av ?_
       refine AWl.nil ?_
       refine AW.le (σ' := ⟨_, [(0, _), (2, _), (3, _), (4, _), (5, _)], []⟩) (Le.sub0 U ⟨U, U, U, U, U, Y⟩ trivial) ?_
       refine AW.region ?_
       refine AWl.mv ?_
       refine AWl.p (R_quo U (.no U) U (.tm U) (.const U) (fun _ => by omega)) U ?_
       refine AWl.av ?_
       refine AWl.nil ?_
       repeat (with_reducible refine BlockQ.nor ?_)
       refine Round2.next (m / 10) (((ByteArray.mk #[UInt8.ofNat ((48 + (m : Int) % 10)).toNat]) ++ O)) ⟨⟨by omega, (by rw [ByteArray.size_append]; have : (⟨#[UInt8.ofNat ((48 + (m : Int) % 10)).toNat]⟩ : ByteArray).size = 1 := rfl; omega)⟩, (by rw [he, restD_step (by omega), ← bs_append, show (48 + (m : Int) % 10).toNat = 48 + m % 10 by omega]; rw [ByteArray.append_assoc]; rfl)⟩ (by omega) (Le.sub0 rfl ⟨rfl, rfl, rfl, rfl, Y⟩ trivial)
   · skip
     try simp at h11
     refine AW.exit ?_
     refine AW.seq ?_
     refine AW.sr ?_
     refine AWl.mv ?_
     refine AWl.nil ?_
     refine AW.cond (.tm U) (fun h27 => ?_) (fun h27 => ?_)
     · exact absurd h27 (by simp)
     · skip
       try simp at h27
       refine AW.skip ?_
       refine AW.sr ?_
       refine AWl.mv ?_
       refine AWl.av ?_
       refine AWl.nil (AW.ret ?_)
       refine Res.v U U ?_
       (have e : m = 0 := (by omega); have e0 : n0 ≠ 0 := (by omega); rw [e] at he; unfold restD at he; rw [if_neg e0, if_pos rfl] at he; unfold numS; rw [Int.toNat_natCast, he, bs_nil_append])
theorem specFormatLetter (k : Int) (h0 : 0 ≤ k) (h8 : k ≤ 8) : FnT Tryz.prog 125 [.one (.v (.int .i64 k))] (.a (.one (.v (.string (bs (letS k)))))) := by
 refine FnT.walk Tryz.func125 U (by kernel_rfl) Tryz.ntmps125 U fun hlen w0 => ?_
 try simp [cEdge, cGraph, cChange, cBatch, cHistory] at hlen
 have hl : inB k 0 8 = true := by unfold inB; simp; omega
 refine AW.sr ?_
 refine AWl.ac ?_
 refine AWl.nil (AW.seq ?_)
 refine AW.sr ?_
 refine AWl.mv ?_
 refine AWl.p (R_callz (FnT.fr (specl2Letter k)) U (.no U) U (.cons (.tm U) U .nil)) U ?_
 refine AWl.p (R_not U (.no U) U (.tm U)) U ?_
 refine AWl.nil ?_
 refine AW.cond (.tm U) (fun h5 => ?_) (fun h5 => ?_)
 · exact absurd h5 (by simp [hl] at h5)
 · skip
   try simp at h5
   refine AW.skip ?_
   refine AW.sr ?_
   refine AWl.p (R_listz (xs := [.const (.string ⟨#[97]⟩), .const (.string ⟨#[97, 45]⟩), .const (.string ⟨#[98]⟩), .const (.string ⟨#[98, 45]⟩), .const (.string ⟨#[99]⟩), .const (.string ⟨#[99, 45]⟩), .const (.string ⟨#[48]⟩), .const (.string ⟨#[49]⟩), .const (.string ⟨#[50]⟩)]) (rows := letNames.map cStr) U U U (.cons (.const U) U U (.cons (.const U) U U (.cons (.const U) U U (.cons (.const U) U U (.cons (.const U) U U (.cons (.const U) U U (.cons (.const U) U U (.cons (.const U) U U (.cons (.const U) U U .nil))))))))) Tryz.underlying87 in9 U U (U)) U ?_
   refine AWl.mv ?_
   refine AWl.p (by exact R_indexAddr U (.no U) U (.tm U) (.tm U) Tryz.underlying87 ty9 (fun _ => ⟨by omega, (letS_get h0 h8)⟩)) U ?_
   refine AWl.p (by exact R_load U (.no U) U (.tm U) ty9 U U) U ?_
   refine AWl.av ?_
   refine AWl.nil (AW.ret ?_)
   refine Res.v U U ?_
   rfl
end Go.Proofs.YtbkhopfpejhnlaaGreatDoor
