import Derived.Test.YtbkhopfpejhnlaaGreatDoorAbsTda
import Derived.WideLaws
import Derived.Test.YtbkhopfpejhnlaaGreatDoorAbsHda
import Derived.Test.YtbkhopfpejhnlaaGreatDoorAbsNda
import Derived.Laws.Cover3
import Derived.Test.YtbkhopfpejhnlaaGreatDoorB02da
import Derived.Lib.Join
import Derived.Lib.ItoaNum
import Derived.Test.YtbkhopfpejhnlaaGreatDoorB28da
import Derived.Shelf.Abstract
import Derived.Shelf.Strings.OnBuilder
import Derived.Shelf.Strconv.Itoa3
import Derived.Ground.NamesProg
set_option linter.unusedVariables false
set_option linter.unusedSimpArgs false
namespace Go.Q
open Go.RowKit
section
variable {P : Program} {ops : Array Oper} {o : Oper} {σ : St}
end
end Go.Q
namespace Go.Q
open Go.RowKit
section
variable {P : Program} {ops : Array Oper} {o : Oper} {σ : St} {q : Bool}
end
end Go.Q
namespace Go.Q
open Go.RowKit
section
variable {P : Program} {ops : Array Oper} {o : Oper} {σ : St} {q : Bool}
def FrE (P : Program) (f : FuncId) (ins : List V0) (Out : V → Prop) : Prop := Callee P f ∧ ∀ w vs F, Good w [] → V0s false w ins vs F → Calls P f (List.toArray vs) w fun e w' => ∃ out, Out out ∧ FrPost w out e w'
theorem R_calle {f : FuncId} {l : List Operand} {tys : Array TypeId} {ins : List V0} {Out : V → Prop} (h : FrE P f ins Out) (ho : o.op = .call { callee := .value (.func f), args := l.toArray, argTypes := tys }) (hg : o.guard = none) (hd : o.dst.all (fun d => Nat.blt d σ.n) = true)
 (ha : Args σ true l ins) : OpE P ops o σ fun σ' => ∃ out, Out out ∧ σ' = σ.put o.dst (true, inS out) := by
 rintro w0 a w ⟨I, hr⟩ K Q hK
 simp only [Region.wanted, hg, if_true]
 obtain ⟨F, hF⟩ := ha.ok hr rfl
 unfold Oper.wp
 rw [run_enter h.1 ho]
 refine (h.2 w _ F hr.good hF).mono fun e w' hR => ?_
 obtain ⟨out, hout, v, G, rfl, h1, h3, h4⟩ := hR
 have hr' := (hr.later h4).also (G := G) fun b hb => ⟨Vr.lt h1 b hb, fun i hi => by have := (hr.lt i b hi).1; have := h3 b hb; omega⟩
 exact hK _ _ _ ⟨out, hout, rfl⟩ ⟨_, hr'.put hd (VS_also h1 fun b hb => .inr hb)⟩
end
end Go.Q
namespace Go.Q
open Go.RowKit
section
variable {P : Program} {ops : Array Oper} {o : Oper} {σ : St} {q : Bool}
end
end Go.Q
namespace Go.Q
open Go.RowKit
section
variable {P : Program} {ops : Array Oper} {o : Oper} {σ : St}
inductive GetL (σ : St) : List Operand → List E → Prop where
 | nil : GetL σ [] []
 | cons {x : Operand} {e : E} {l : List Operand} {es : List E} (hx : Get σ true x (.one e)) (h : GetL σ l es) : GetL σ (x :: l) (e :: es)
end
end Go.Q
namespace Go.Q
open Go.RowKit
section
variable {P : Program} {ops : Array Oper} {o : Oper} {σ : St} {q : Bool}
theorem R_conv {t t' : TypeId} {x : Operand} {k0 k : IntKind} {n m : Int} (ho : o.op = .convert t t' x) (hg : Grd ops o σ q) (hd : o.dst.all (fun d => Nat.blt d σ.n) = true) (hx : Get σ q x (.one (.t (.v (.int k0 n))))) (hu0 : (P.underlying t).isSome = true) (hu : P.underlying t' = some (.int k)) (hm : q = true → k.wrap n = m) :
 Op1 P ops o σ (σ.put o.dst (q, .a (.one (.t (.v (.int k m)))))) :=
 .val hg hd fun I w0 a w hr hq => by
  have hv := hx.int hr hq
  obtain ⟨u0, hu0⟩ := Option.isSome_iff_exists.1 hu0
  exact ⟨_, by simp [execOp, ho, hv, Go.convert, run_underlying hu0, run_underlying hu, Conv.intToInt, hm hq], VS_v _⟩
end
end Go.Q
set_option maxHeartbeats 1000000
set_option maxRecDepth 100000
namespace Go.Q
open Go.D
def bs (l : List UInt8) : ByteArray := ⟨l.toArray⟩
theorem bs_append (l m : List UInt8) : bs l ++ bs m = bs (l ++ m) := by
 apply ByteArray.ext
 rw [ByteArray.data_append]
 simp [bs]
theorem bs_size (l : List UInt8) : (bs l).size = l.length := by simp [bs, ByteArray.size]
theorem bs_list (l : List UInt8) : (bs l).data.toList = l := by simp [bs]
theorem bs_inj {l m : List UInt8} (h : bs l = bs m) : l = m := by rw [← bs_list l, ← bs_list m, h]
def numS (n : Int) : List UInt8 := Lib.decDigits n.toNat
theorem dig_small {n : Nat} (h : n < 10) : Lib.decDigits n = [UInt8.ofNat (48 + n)] := by rw [Lib.decDigits, dif_pos h]
theorem dig_more {n : Nat} (h : 10 ≤ n) : Lib.decDigits n = Lib.decDigits (n / 10) ++ [UInt8.ofNat (48 + n % 10)] := by rw [Lib.decDigits, dif_neg (by omega)]
theorem dig_len {n : Nat} (h : n < 100) : 1 ≤ (Lib.decDigits n).length ∧ (Lib.decDigits n).length ≤ 2 := by
 by_cases h1 : n < 10
 · rw [dig_small h1]; simp
 · rw [dig_more (by omega), dig_small (by omega)]; simp
theorem numS_len {n : Int} (h : n < 100) : 1 ≤ (numS n).length ∧ (numS n).length ≤ 2 := dig_len (by omega)
def joinL (sep : List UInt8) (xs : List (List UInt8)) : List UInt8 := Lib.join xs sep
theorem joinL_nil (sep : List UInt8) : joinL sep [] = [] := rfl
theorem joinL_snoc (sep : List UInt8) (xs : List (List UInt8)) (x : List UInt8) : joinL sep (xs ++ [x]) = if xs = [] then x else joinL sep xs ++ sep ++ x := by
 unfold joinL
 cases xs with
 | nil => rw [if_pos rfl]; exact Lib.join_one x sep
 | cons y r =>
  rw [if_neg (by simp), List.cons_append, Lib.join_cons, Lib.join_cons]
  simp [Lib.joinTail, List.append_assoc]
theorem joinL_len {sep : List UInt8} {b : Nat} {α : Type} {f : α → List UInt8} : ∀ {l : List α}, (∀ x ∈ l, (f x).length ≤ b) → (joinL sep (l.map f)).length ≤ l.length * (b + sep.length)
 | [], _ => by simp [joinL_nil]
 | x :: l, h => by
  have h1 := h x (by simp)
  have h2 : ∀ (r : List α), (∀ x ∈ r, (f x).length ≤ b) → (Lib.joinTail sep (r.map f)).length ≤ r.length * (b + sep.length) := by
   intro r
   induction r with
   | nil => intro _; simp [Lib.joinTail]
   | cons y r ih =>
    intro hr
    have h3 := hr y (by simp)
    have h4 := ih fun z hz => hr z (by simp [hz])
    simp only [Lib.joinTail, List.map_cons, List.flatten_cons, List.length_append, List.length_cons] at h4 ⊢
    rw [Nat.succ_mul]; omega
  have h5 := h2 l fun z hz => h z (by simp [hz])
  unfold joinL
  rw [List.map_cons, Lib.join_cons, List.length_append, List.length_cons, Nat.succ_mul]
  omega
def cStr (s : List UInt8) : List T := [.v (.string (bs s))]
end Go.Q
set_option maxHeartbeats 1000000
set_option maxRecDepth 100000
namespace Go.Q
open Go.D
theorem ap_mem {l : List TPair} (h : arePairs l = true) : ∀ p ∈ l, (0 ≤ p.From ∧ p.From < 5) ∧ 0 ≤ p.To ∧ p.To < 5 := by
 intro p hp
 obtain ⟨k, hk⟩ := List.getElem?_of_mem hp
 have hl := (List.getElem?_eq_some_iff.1 hk).1
 unfold arePairs at h
 have h1 := List.all_eq_true.1 h k (List.mem_range.2 hl)
 unfold apAt at h1
 rw [hk] at h1
 simp only [okP, inB, Bool.and_eq_true, decide_eq_true_eq] at h1
 omega
def fmtPair (p : TPair) : List UInt8 := numS p.From ++ numS p.To
def fmtPairs (l : List TPair) : List UInt8 := if arePairs l = true then (if l = [] then [110, 111, 110, 101] else joinL [32] (l.map fmtPair)) else []
theorem fmtPair_len {p : TPair} (h : (0 ≤ p.From ∧ p.From < 5) ∧ 0 ≤ p.To ∧ p.To < 5) : (fmtPair p).length ≤ 4 := by
 have h1 := numS_len (n := p.From) (by omega)
 have h2 := numS_len (n := p.To) (by omega)
 unfold fmtPair
 rw [List.length_append]; omega
theorem fmtPairs_len (l : List TPair) : (fmtPairs l).length ≤ 5 * l.length + 4 := by
 unfold fmtPairs
 split
 · rename_i h
   split
   · simp
   · have := joinL_len (sep := [32]) (b := 4) (f := fmtPair) (l := l) fun p hp => fmtPair_len (ap_mem h p hp)
     simp at this; omega
 · simp
def fmtDelta (d : TDelta) : List UInt8 := if isDelta d = true then [43] ++ fmtPairs d.Added ++ [32, 45] ++ fmtPairs d.Removed else []
end Go.Q
set_option maxHeartbeats 1000000
set_option maxRecDepth 100000
namespace Go.Proofs.YtbkhopfpejhnlaaGreatDoor
open Go.RowKit Go.Q Go.D Go.Shelf
def Tryz.lays171_ren:Go.Shelf.Ren:=⟨fun|171=>91|243=>119|246=>140|283=>164|284=>165|285=>166|286=>167|129=>160|317=>177|318=>178|319=>179|320=>180|337=>184|338=>185|n=>n,fun|3=>3|9=>9|2=>2|4=>4|171=>185|0=>0|53=>179|37=>22|5=>5|173=>187|212=>202|51=>177|20=>20|213=>203|46=>150|232=>216|233=>217|n=>n,fun|17=>3|18=>6|19=>7|n=>n⟩
theorem Tryz.lays171:Go.Proofs.Lays.n171 Tryz.prog Tryz.lays171_ren:={
 mixed:=by kernel_rfl
 f129:=Tryz.func160.trans (congrArg some (by kernel_rfl))
 f171:=Tryz.func91.trans (congrArg some (by kernel_rfl))
 f243:=Tryz.func119.trans (congrArg some (by kernel_rfl))
 f246:=Tryz.func140.trans (congrArg some (by kernel_rfl))
 f283:=Tryz.func164.trans (congrArg some (by kernel_rfl))
 f284:=Tryz.func165.trans (congrArg some (by kernel_rfl))
 f285:=Tryz.func166.trans (congrArg some (by kernel_rfl))
 f286:=Tryz.func167.trans (congrArg some (by kernel_rfl))
 f317:=Tryz.func177.trans (congrArg some (by kernel_rfl))
 f318:=Tryz.func178.trans (congrArg some (by kernel_rfl))
 f319:=Tryz.func179.trans (congrArg some (by kernel_rfl))
 f320:=Tryz.func180.trans (congrArg some (by kernel_rfl))
 f337:=Tryz.func184.trans (congrArg some (by kernel_rfl))
 f338:=Tryz.func185.trans (congrArg some (by kernel_rfl))
 t0:=Tryz.underlying0
 a0:=Tryz.isAgg0
 z0:=Tryz.sizeOf0
 v0:=Tryz.zeroValue0
 t2:=Tryz.underlying2
 a2:=Tryz.isAgg2
 z2:=Tryz.sizeOf2
 v2:=Tryz.zeroValue2
 t3:=Tryz.underlying3
 a3:=Tryz.isAgg3
 z3:=Tryz.sizeOf3
 v3:=Tryz.zeroValue3
 t4:=Tryz.underlying4
 a4:=Tryz.isAgg4
 z4:=Tryz.sizeOf4
 v4:=Tryz.zeroValue4
 t5:=Tryz.underlying5
 a5:=Tryz.isAgg5
 z5:=Tryz.sizeOf5
 v5:=Tryz.zeroValue5
 t9:=Tryz.underlying9
 a9:=Tryz.isAgg9
 z9:=Tryz.sizeOf9
 v9:=Tryz.zeroValue9
 t20:=Tryz.underlying20
 a20:=Tryz.isAgg20
 z20:=Tryz.sizeOf20
 v20:=Tryz.zeroValue20
 t37:=Tryz.underlying22
 a37:=Tryz.isAgg22
 z37:=Tryz.sizeOf22
 v37:=Tryz.zeroValue22
 t46:=Tryz.underlying150
 a46:=Tryz.isAgg150
 z46:=Tryz.sizeOf150
 v46:=Tryz.zeroValue150
 t51:=Tryz.underlying177
 a51:=Tryz.isAgg177
 z51:=Tryz.sizeOf177
 v51:=Tryz.zeroValue177
 t53:=Tryz.underlying179
 a53:=Tryz.isAgg179
 z53:=Tryz.sizeOf179
 v53:=Tryz.zeroValue179
 t171:=Tryz.underlying185
 a171:=Tryz.isAgg185
 z171:=Tryz.sizeOf185
 v171:=Tryz.zeroValue185
 t173:=Tryz.underlying187
 a173:=Tryz.isAgg187
 z173:=Tryz.sizeOf187
 v173:=Tryz.zeroValue187
 t212:=Tryz.underlying202
 a212:=Tryz.isAgg202
 z212:=Tryz.sizeOf202
 v212:=Tryz.zeroValue202
 t213:=Tryz.underlying203
 a213:=Tryz.isAgg203
 z213:=Tryz.sizeOf203
 t232:=Tryz.underlying216
 a232:=Tryz.isAgg216
 z232:=Tryz.sizeOf216
 v232:=Tryz.zeroValue216
 t233:=Tryz.underlying217
 a233:=Tryz.isAgg217
 z233:=Tryz.sizeOf217
 v233:=Tryz.zeroValue217
 g17:=by kernel_rfl
 g18:=by kernel_rfl
 g19:=by kernel_rfl }
theorem strconvItoa (n : Int) (h0 : 0 ≤ n) (h1 : n < 100) : FnT Tryz.prog 91 [.one (.v (.int .i64 n))] (.a (.one (.v (.string (bs (numS n)))))) := by
 refine ⟨⟨_, Tryz.func91, by kernel_rfl, by kernel_rfl⟩, fun w vs F hG hv => ?_⟩
 obtain ⟨v1, vr, G1, G2, rfl, g1, ⟨rfl, rfl⟩, rfl⟩ := hv
 simp only [V0r, C] at g1
 obtain ⟨rfl, rfl, _⟩ := g1
 have hcon := Any.strconv_Itoa_small Tryz.lays171 n.toNat (by omega) w
 change Calls Tryz.prog 91 _ _ _ at hcon
 rw [Int.toNat_of_nonneg h0] at hcon
 refine hcon.mono ?_
 rintro e w' ⟨rfl, rfl⟩
 refine ⟨_, [], rfl, ?_, List.nodup_nil, by simp, Ext.refl _⟩
 simp [Vr, V0r, C]
 exact ⟨rfl, rfl⟩
def Tryz.lays156_ren:Go.Shelf.Ren:=⟨fun|156=>83|165=>111|166=>112|169=>113|240=>134|241=>135|276=>161|277=>162|n=>n,fun|31=>87|9=>9|3=>3|4=>4|0=>0|20=>20|72=>140|76=>122|70=>138|37=>22|75=>121|127=>156|164=>180|5=>5|80=>142|n=>n,fun|n=>n⟩
theorem Tryz.lays156:Go.Proofs.Lays.n156 Tryz.prog Tryz.lays156_ren:={
 mixed:=by kernel_rfl
 f156:=Tryz.func83.trans (congrArg some (by kernel_rfl))
 f165:=Tryz.func111.trans (congrArg some (by kernel_rfl))
 f166:=Tryz.func112.trans (congrArg some (by kernel_rfl))
 f169:=Tryz.func113.trans (congrArg some (by kernel_rfl))
 f240:=Tryz.func134.trans (congrArg some (by kernel_rfl))
 f241:=Tryz.func135.trans (congrArg some (by kernel_rfl))
 f276:=Tryz.func161.trans (congrArg some (by kernel_rfl))
 f277:=Tryz.func162.trans (congrArg some (by kernel_rfl))
 t0:=Tryz.underlying0
 a0:=Tryz.isAgg0
 z0:=Tryz.sizeOf0
 v0:=Tryz.zeroValue0
 t3:=Tryz.underlying3
 a3:=Tryz.isAgg3
 z3:=Tryz.sizeOf3
 v3:=Tryz.zeroValue3
 t4:=Tryz.underlying4
 a4:=Tryz.isAgg4
 z4:=Tryz.sizeOf4
 v4:=Tryz.zeroValue4
 t9:=Tryz.underlying9
 a9:=Tryz.isAgg9
 z9:=Tryz.sizeOf9
 v9:=Tryz.zeroValue9
 t20:=Tryz.underlying20
 a20:=Tryz.isAgg20
 z20:=Tryz.sizeOf20
 v20:=Tryz.zeroValue20
 t31:=Tryz.underlying87
 a31:=Tryz.isAgg87
 z31:=Tryz.sizeOf87
 v31:=Tryz.zeroValue87
 t37:=Tryz.underlying22
 a37:=Tryz.isAgg22
 z37:=Tryz.sizeOf22
 v37:=Tryz.zeroValue22
 t70:=Tryz.underlying138
 a70:=Tryz.isAgg138
 z70:=Tryz.sizeOf138
 v70:=Tryz.zeroValue138
 t72:=Tryz.underlying140
 a72:=Tryz.isAgg140
 z72:=Tryz.sizeOf140
 v72:=Tryz.zeroValue140
 t75:=Tryz.underlying121
 a75:=Tryz.isAgg121
 z75:=Tryz.sizeOf121
 v75:=Tryz.zeroValue121
 t76:=Tryz.underlying122
 a76:=Tryz.isAgg122
 z76:=Tryz.sizeOf122
 v76:=Tryz.zeroValue122
 t127:=Tryz.underlying156
 a127:=Tryz.isAgg156
 z127:=Tryz.sizeOf156
 v127:=Tryz.zeroValue156
 t164:=Tryz.underlying180
 a164:=Tryz.isAgg180
 z164:=Tryz.sizeOf180
 v164:=Tryz.zeroValue180 }
theorem joinExtra : Builder.Extra Tryz.prog Tryz.lays156_ren where
 sizeBuilder := by kernel_rfl
 liesBuilder := by kernel_rfl
 t5 := Tryz.lays171.t5
 a5 := Tryz.lays171.a5
 z5 := Tryz.lays171.z5
 v5 := Tryz.lays171.v5
 infoByte := by kernel_rfl
 cellsByte := by kernel_rfl
 sizeByte := by kernel_rfl
 neB5 := by decide
theorem stringsJoin (xs : List (List UInt8)) (sep : List UInt8) (hz : (joinL sep xs).length ≤ 140737488355328) (hn : xs.length ≤ 1099511627776) : FnT Tryz.prog 83 [.one (.sl 1 (xs.map cStr)), .one (.v (.string (bs sep)))] (.a (.one (.v (.string (bs (joinL sep xs)))))) := by
 refine ⟨⟨_, Tryz.func83, by kernel_rfl, by kernel_rfl⟩, fun w vs F hG hv => ?_⟩
 obtain ⟨v1, vr, G1, G2, rfl, g1, ⟨v2, vr2, G3, G4, rfl, g2, ⟨rfl, rfl⟩, rfl⟩, rfl⟩ := hv
 simp only [V0r, C] at g1 g2
 obtain ⟨rfl, rfl, _⟩ := g2
 obtain ⟨a, len, cap, rfl, e1, e2, e3, e4⟩ := g1
 have hmap : (xs.map bs).map (·.data.toList) = xs := by
  rw [List.map_map]
  conv => rhs; rw [← List.map_id xs]
  exact List.map_congr_left fun x _ => bs_list x
 rcases e4 with ⟨rfl, _, _⟩ | ⟨b, off, G, rfl, _, hb, _, hR⟩
 · have hx : xs = [] := by cases xs with | nil => rfl | cons _ _ => simp at e1
   subst hx
   have hcon := Any.strings_Join_none Tryz.lays156 joinExtra a cap (bs sep) w
   change Calls Tryz.prog 83 _ _ _ at hcon
   refine hcon.mono ?_
   rintro e w' ⟨rfl, rfl⟩
   refine ⟨_, [], rfl, ?_, List.nodup_nil, by simp, Ext.refl _⟩
   simp [Vr, V0r, C]
   exact ⟨rfl, rfl⟩
 · have hlen : xs.length = len := by simpa using e1
   subst hlen
   have hcells : ∀ (j : Nat) x, (xs.map bs)[j]? = some x → w.cell? ⟨b, off + j, none⟩ = some (.string x) := fun j x hj => by
    have hj2 : (xs.map cStr)[j]? = some [.v (.string x)] := by
     rw [List.getElem?_map] at hj ⊢
     cases hx : xs[j]? with
     | none => rw [hx] at hj; cases hj
     | some y => rw [hx] at hj; cases hj; rfl
    obtain ⟨G', hM, _⟩ := hR.get hj2
    simp only [Ms, C] at hM
    obtain ⟨c, _, _, hc, ⟨rfl, _⟩, _⟩ := hM
    rw [Nat.mul_one] at hc
    exact hc
   have hcon := Any.strings_Join Tryz.lays156 joinExtra b off cap (xs.map bs) (bs sep) w hcells hb (by rw [List.length_map]; omega) (by rw [List.length_map]; exact e2) (by rw [hmap, bs_list]; exact hz)
   rw [hmap, bs_list, List.length_map] at hcon
   change Calls Tryz.prog 83 _ _ _ at hcon
   refine hcon.mono ?_
   rintro e w' ⟨rfl, hB⟩
   refine ⟨_, [], rfl, ?_, List.nodup_nil, by simp, (Ext.refl w).trans' hB.os hB.tape hB.output hB.size hB.block⟩
   simp [Vr, V0r, C]
   exact ⟨rfl, rfl⟩
end Go.Proofs.YtbkhopfpejhnlaaGreatDoor
