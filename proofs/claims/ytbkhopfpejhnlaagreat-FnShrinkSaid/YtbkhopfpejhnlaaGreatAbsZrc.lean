import Derived.Test.YtbkhopfpejhnlaaGreatAbsRrc
import Derived.Test.YtbkhopfpejhnlaaGreatSortrc
import Derived.Test.YtbkhopfpejhnlaaGreatB34rc
import Derived.Lib.Join
import Derived.Lib.ItoaNum
import Derived.Test.YtbkhopfpejhnlaaGreatB28rc
import Derived.Lib.SplitLaws
import Derived.Lib.Atoi
import Derived.WideLaws
import Derived.Test.YtbkhopfpejhnlaaGreatAbsHrc
import Derived.Shelf.Abstract
import Derived.Shelf.Strings.OnBuilder
import Derived.Shelf.Strconv.Itoa3
import Derived.Ground.NamesProg
import Derived.Shelf.Strings.SplitShaped
import Derived.Shelf.Strings.Shaped
import Derived.Shelf.Strings.Prefix
import Derived.Shelf.Small.Strs
import Derived.Shelf.Strconv.Atoi
import Derived.Shelf.Strconv.AtoiErr
set_option linter.unusedVariables false
set_option linter.unusedSimpArgs false
namespace Go.Q
open Go.RowKit
end Go.Q
namespace Go.Q
open Go.RowKit
section
variable {P : Program} {ops : Array Oper} {o : Oper} {σ : St} {q : Bool}
theorem guard_str {op : BinOp} {t : TypeId} {x y : Operand} {a b : ByteArray} (w : World) : (eqGuard op t x y (.string a) (.string b)).run P w = .ok () w := by
 unfold eqGuard; split <;> rfl
theorem str_eq (a b : ByteArray) : (a.toList == b.toList) = decide (a = b) := by
 rw [Bool.eq_iff_iff, beq_iff_eq, decide_eq_true_eq]
 exact ⟨fun h => by
  rw [ByteArray.toList_eq, ByteArray.toList_eq] at h
  exact ByteArray.ext (Array.toList_inj.1 h), fun h => by rw [h]⟩
theorem R_cat {t t' : TypeId} {x y : Operand} {a b : ByteArray} (ho : o.op = .binOp .add t x y t') (hg : Grd ops o σ q) (hd : o.dst.all (fun d => Nat.blt d σ.n) = true) (hx : Get σ q x (.one (.t (.v (.string a))))) (hy : Get σ q y (.one (.t (.v (.string b)))))
 (hb : q = true → a.size + b.size ≤ 9223372036854775807) : Op1 P ops o σ (σ.put o.dst (q, .a (.one (.t (.v (.string (a ++ b))))))) :=
 R_bin ho hg hd hx hy guard_str (h := fun hq w => by
  have := hb hq
  simp only [binOp, Op.stringOp]
  rw [if_neg (show ¬ (((a.size + b.size : Nat) : Int) > IntKind.i64.max) by rw [show IntKind.i64.max = 9223372036854775807 from rfl]; omega)]
  rfl)
theorem R_eqstr {t t' : TypeId} {x y : Operand} {a b : ByteArray} (ho : o.op = .binOp .eql t x y t') (hg : Grd ops o σ q) (hd : o.dst.all (fun d => Nat.blt d σ.n) = true) (hx : Get σ q x (.one (.t (.v (.string a))))) (hy : Get σ q y (.one (.t (.v (.string b))))) :
 Op1 P ops o σ (σ.put o.dst (q, .a (.one (.t (.v (.bool (decide (a = b)))))))) :=
 R_bin ho hg hd hx hy guard_str (h := fun hq w => by simp only [binOp, Op.stringOp, str_eq]; rfl)
theorem R_strIndex {t : TypeId} {x y : Operand} {s : ByteArray} {n : Int} {b : UInt8} (ho : o.op = .index t x y) (hg : Grd ops o σ q) (hd : o.dst.all (fun d => Nat.blt d σ.n) = true) (hx : Get σ q x (.one (.t (.v (.string s))))) (hy : Get σ q y (.one (.t (.v (.int .i64 n)))))
 (hu : P.underlying t = some .string) (hi : q = true → 0 ≤ n ∧ s[n.toNat]? = some b) : Op1 P ops o σ (σ.put o.dst (q, .a (.one (.t (.v (.int .u8 b.toNat)))))) :=
 .val hg hd fun I w0 a w hr hq => ⟨_, by
  obtain ⟨h0, h1⟩ := hi hq
  simp [execOp, ho, hx.int hr hq, hy.int hr hq, Instr.index, asIntOf, run_underlying hu, h0, h1], VS_v _⟩
theorem R_strSlice {t : TypeId} {x : Operand} {lo hi : Option Operand} {n m : Nat} {s : ByteArray} (ho : o.op = .slice t x lo hi none) (hg : Grd ops o σ q) (hd : o.dst.all (fun d => Nat.blt d σ.n) = true) (hx : Get σ q x (.one (.t (.v (.string s)))))
 (hl : Bnd σ q lo 0 n) (hh : Bnd σ q hi s.size m) (hu : P.underlying t = some .string) (hb : q = true → n ≤ m ∧ m ≤ s.size) : Op1 P ops o σ (σ.put o.dst (q, .a (.one (.t (.v (.string (s.extract n m))))))) :=
 .val hg hd fun I w0 a w hr hq => ⟨_, by
  obtain ⟨b1, b2⟩ := hb hq
  have b3 : n ≤ s.size := Nat.le_trans b1 b2
  have hs := hx.int hr hq
  have hlo := hl.val hr hq
  have hhi := hh.val hr hq
  rcases hlo with ⟨e1, rfl⟩ | e1 <;> rcases hhi with ⟨e2, rfl⟩ | e2 <;> simp [execOp, ho, hs, e1, e2, Instr.sliceAt, Instr.slice, run_underlying hu, Instr.sliceBounds, Instr.sliceBound, asIntOf, b1, b2, b3], VS_v _⟩
end
end Go.Q
namespace Go.Q
open Go.RowKit
section
variable {P : Program} {ops : Array Oper} {o : Oper} {σ : St}
end
end Go.Q
namespace Go.Q
open Go.RowKit
section
variable {P : Program} {ops : Array Oper} {o : Oper} {σ : St} {q : Bool}
theorem run_byteStr {w : World} {n : Int} {v : Value} {G : List Nat} (h : C false w (.sl 1 [[.v (.int .u8 n)]]) v G) : (Conv.bytesToString v).run P w = .ok (.string ⟨#[UInt8.ofNat n.toNat]⟩) w := by
 simp only [C] at h
 obtain ⟨a, len, cap, rfl, e1, e2, e3, e4⟩ := h
 have e1 : len = 1 := by simpa using e1.symm
 subst e1
 rcases e4 with ⟨h0, _⟩ | ⟨b, off, G', rfl, _, hb, _, hR⟩
 · omega
 · simp only [Rws, Ms, C] at hR
   obtain ⟨_, _, _, ⟨c, _, _, hc, ⟨rfl, _⟩, _⟩, _⟩ := hR
   have hl := run_loadCells_list (P := P) w ⟨b, off, none⟩ [.int .u8 n] (fun j u hj => by
    cases j with
    | zero => cases hj; rw [Addr.add_lit]; simpa using hc
    | succ j => cases hj)
   simp only [List.length_singleton] at hl
   simp [Conv.bytesToString, hl]
   rfl
theorem R_byteStr {t t' e : TypeId} {x : Operand} {n : Int} (ho : o.op = .convert t t' x) (hg : Grd ops o σ q) (hd : o.dst.all (fun d => Nat.blt d σ.n) = true) (hx : Get σ q x (.one (.t (.sl 1 [[.v (.int .u8 n)]]))))
 (hu : P.underlying t = some (.slice e)) (he : P.underlying e = some (.int .u8)) (hu' : P.underlying t' = some .string) : Op1 P ops o σ (σ.put o.dst (q, .a (.one (.t (.v (.string ⟨#[UInt8.ofNat n.toNat]⟩)))))) :=
 .val hg hd fun I w0 a w hr hq => by
  obtain ⟨G, h1, _⟩ : VE I w (.t (.sl 1 [[.v (.int .u8 n)]])) (a.eval x) := hx.va hr hq
  have hb := run_byteStr (P := P) h1
  have hs := h1
  simp only [C] at hs
  obtain ⟨ad, len, cap, e0, _⟩ := hs
  exact ⟨_, by
   rw [e0] at hb
   simp [execOp, ho, e0, Go.convert, run_underlying hu, run_underlying hu', run_underlying he, hb], VS_v _⟩
end
end Go.Q
set_option maxHeartbeats 1000000
set_option maxRecDepth 100000
namespace Go.Q
open Go.D
def bs (l : List UInt8) : ByteArray := ⟨l.toArray⟩
theorem bs_append (l m : List UInt8) : bs l ++ bs m = bs (l ++ m) := by
 apply ByteArray.ext
 rw [ByteArray.data_append]
 simp [bs]
theorem bs_nil_append (O : ByteArray) : bs [] ++ O = O := by
 apply ByteArray.ext
 rw [ByteArray.data_append]
 simp [bs]
theorem bs_size (l : List UInt8) : (bs l).size = l.length := by simp [bs, ByteArray.size]
theorem bs_list (l : List UInt8) : (bs l).data.toList = l := by simp [bs]
theorem bs_inj {l m : List UInt8} (h : bs l = bs m) : l = m := by rw [← bs_list l, ← bs_list m, h]
def numS (n : Int) : List UInt8 := Lib.decDigits n.toNat
theorem dig_small {n : Nat} (h : n < 10) : Lib.decDigits n = [UInt8.ofNat (48 + n)] := by rw [Lib.decDigits, dif_pos h]
theorem dig_more {n : Nat} (h : 10 ≤ n) : Lib.decDigits n = Lib.decDigits (n / 10) ++ [UInt8.ofNat (48 + n % 10)] := by rw [Lib.decDigits, dif_neg (by omega)]
theorem dig_len {n : Nat} (h : n < 100) : 1 ≤ (Lib.decDigits n).length ∧ (Lib.decDigits n).length ≤ 2 := by
 by_cases h1 : n < 10
 · rw [dig_small h1]; simp
 · rw [dig_more (by omega), dig_small (by omega)]; simp
theorem numS_len {n : Int} (h : n < 100) : 1 ≤ (numS n).length ∧ (numS n).length ≤ 2 := dig_len (by omega)
def restD (n : Nat) : List UInt8 := if n = 0 then [] else Lib.decDigits n
theorem restD_step {n : Nat} (h : n ≠ 0) : restD n = restD (n / 10) ++ [UInt8.ofNat (48 + n % 10)] := by
 unfold restD
 rw [if_neg h]
 by_cases h1 : n < 10
 · rw [dig_small h1, if_pos (by omega), Nat.mod_eq_of_lt h1]; rfl
 · rw [dig_more (by omega), if_neg (by omega)]
def cStr (s : List UInt8) : List T := [.v (.string (bs s))]
end Go.Q
set_option maxHeartbeats 1000000
set_option maxRecDepth 100000
namespace Go.Q
open Go.D
def letNames : List (List UInt8) := [[97], [97, 45], [98], [98, 45], [99], [99, 45], [48], [49], [50]]
def letS (k : Int) : List UInt8 := letNames[k.toNat]?.getD []
theorem letS_get {k : Int} (h0 : 0 ≤ k) (h8 : k ≤ 8) : (letNames.map cStr)[k.toNat]? = some (cStr (letS k)) := by
 have hk : k.toNat < letNames.length := by simp [letNames]; omega
 rw [List.getElem?_map, List.getElem?_eq_getElem hk]
 unfold letS
 rw [List.getElem?_eq_getElem hk]; rfl
end Go.Q
set_option maxHeartbeats 1000000
set_option maxRecDepth 100000
namespace Go.Q
open Go.D
def splitL (c : UInt8) : List UInt8 → List (List UInt8)
 | [] => [[]]
 | b :: l => if b = c then [] :: splitL c l else (b :: (splitL c l).headD []) :: (splitL c l).tail
theorem splitL_no {c : UInt8} : ∀ {l : List UInt8}, c ∉ l → splitL c l = [l]
 | [], _ => rfl
 | b :: l, h => by
  unfold splitL
  rw [if_neg (fun e => h (by simp [e])), splitL_no fun hm => h (by simp [hm])]
  rfl
theorem splitL_hit {c : UInt8} {r : List UInt8} : ∀ {l : List UInt8}, c ∉ l → splitL c (l ++ c :: r) = l :: splitL c r
 | [], _ => by rw [List.nil_append, splitL, if_pos rfl]
 | b :: l, h => by
  rw [List.cons_append, splitL, if_neg (fun e => h (by simp [e])), splitL_hit fun hm => h (by simp [hm])]
  rfl
theorem splitL_len (c : UInt8) : ∀ l : List UInt8, (splitL c l).length = l.count c + 1
 | [] => rfl
 | b :: l => by
  unfold splitL
  have ih := splitL_len c l
  split
  · rename_i h; subst h; rw [List.length_cons, ih, List.count_cons_self]
  · rename_i h
    rw [List.length_cons, List.length_tail, ih, List.count_cons_of_ne (by simpa using h)]; omega
theorem cut_step {c b : UInt8} {l : List UInt8} {O : List (List UInt8)} {F i : Nat} (hb : l[i]? = some b) (hi : F ≤ i ∧ i ≤ l.length ∧ c ∉ (l.take i).drop F ∧ O.length ≤ i) (hbe : b = c) (he : splitL c l = O ++ splitL c (l.drop F)) :
 splitL c l = (O ++ [(l.take i).drop F]) ++ splitL c (l.drop (i + 1)) := by
 subst hbe
 have hl := (List.getElem?_eq_some_iff.1 hb).1
 have e : l.drop F = (l.take i).drop F ++ b :: l.drop (i + 1) := by
  conv => lhs; rw [← List.take_append_drop i l]
  rw [List.drop_append, List.length_take, show F - min i l.length = 0 by omega, List.drop_zero, List.drop_eq_getElem_cons hl, (List.getElem?_eq_some_iff.1 hb).2]
 rw [he, e, splitL_hit hi.2.2.1]
 simp
theorem cut_keep {c b : UInt8} {l : List UInt8} {O : List (List UInt8)} {F i : Nat} (hb : l[i]? = some b) (hi : F ≤ i ∧ i ≤ l.length ∧ c ∉ (l.take i).drop F ∧ O.length ≤ i) (hbe : b ≠ c) : c ∉ (l.take (i + 1)).drop F := by
 have hl := (List.getElem?_eq_some_iff.1 hb).1
 rw [List.take_add_one, hb, List.drop_append, List.length_take]
 intro h
 rcases List.mem_append.1 h with h | h
 · exact hi.2.2.1 h
 · rw [show F - min i l.length = 0 by omega] at h
   simp at h
   exact hbe h.symm
theorem bs_get (l : List UInt8) (n : Nat) : (bs l)[n]? = l[n]? := by
 show (bs l).data[n]? = l[n]?
 simp [bs]
theorem bs_extract (l : List UInt8) (n m : Nat) : (bs l).extract n m = bs ((l.take m).drop n) := by
 apply ByteArray.ext
 rw [ByteArray.data_extract]
 apply Array.ext'
 rw [Array.toList_extract, List.extract_eq_take_drop, bs_list]
 simp only [bs]
 rw [List.drop_take]
end Go.Q
namespace Go.Q
open Go.RowKit
section
variable {P : Program} {ops : Array Oper} {o : Oper} {σ : St} {q : Bool}
theorem wrapI {n : Int} (h : -9223372036854775808 ≤ n ∧ n ≤ 9223372036854775807) : IntKind.i64.wrap n = n := wrap_in h
def FrE (P : Program) (f : FuncId) (ins : List V0) (Out : V → Prop) : Prop := Callee P f ∧ ∀ w vs F, Good w [] → V0s false w ins vs F → Calls P f (List.toArray vs) w fun e w' => ∃ out, Out out ∧ FrPost w out e w'
theorem R_calle {f : FuncId} {l : List Operand} {tys : Array TypeId} {ins : List V0} {Out : V → Prop} (h : FrE P f ins Out) (ho : o.op = .call { callee := .value (.func f), args := l.toArray, argTypes := tys }) (hg : o.guard = none) (hd : o.dst.all (fun d => Nat.blt d σ.n) = true)
 (ha : Args σ true l ins) : OpE P ops o σ fun σ' => ∃ out, Out out ∧ σ' = σ.put o.dst (true, inS out) := by
 rintro w0 a w ⟨I, hr⟩ K Q hK
 simp only [Region.wanted, hg, if_true]
 obtain ⟨F, hF⟩ := ha.ok hr rfl
 unfold Oper.wp
 rw [run_enter h.1 ho]
 refine (h.2 w _ F hr.good hF).mono fun e w' hR => ?_
 obtain ⟨out, hout, v, G, rfl, h1, h3, h4⟩ := hR
 have hr' := (hr.later h4).also (G := G) fun b hb => ⟨Vr.lt h1 b hb, fun i hi => by have := (hr.lt i b hi).1; have := h3 b hb; omega⟩
 exact hK _ _ _ ⟨out, hout, rfl⟩ ⟨_, hr'.put hd (VS_also h1 fun b hb => .inr hb)⟩
end
end Go.Q
namespace Go.Q
open Go.RowKit
section
variable {P : Program} {ops : Array Oper} {o : Oper} {σ : St} {q : Bool}
end
end Go.Q
namespace Go.Q
open Go.RowKit
section
variable {P : Program} {ops : Array Oper} {o : Oper} {σ : St}
inductive GetL (σ : St) : List Operand → List E → Prop where
 | nil : GetL σ [] []
 | cons {x : Operand} {e : E} {l : List Operand} {es : List E} (hx : Get σ true x (.one e)) (h : GetL σ l es) : GetL σ (x :: l) (e :: es)
end
end Go.Q
set_option maxHeartbeats 1000000
set_option maxRecDepth 100000
namespace Go.Proofs.YtbkhopfpejhnlaaGreat
open Go.RowKit Go.Q Go.D Go.Shelf
end Go.Proofs.YtbkhopfpejhnlaaGreat
set_option maxHeartbeats 1000000
set_option maxRecDepth 100000
namespace Go.Q
open Go.RowKit
end Go.Q
namespace Go.Proofs.YtbkhopfpejhnlaaGreat
open Go.RowKit Go.Q Go.D Go.Shelf
end Go.Proofs.YtbkhopfpejhnlaaGreat
set_option maxHeartbeats 1000000
set_option maxRecDepth 100000
namespace Go.Q
open Go.D
end Go.Q
set_option maxHeartbeats 1000000
set_option maxRecDepth 100000
namespace Go.Proofs.YtbkhopfpejhnlaaGreat
open Go.RowKit Go.Q Go.D Go.Shelf
end Go.Proofs.YtbkhopfpejhnlaaGreat
namespace Go.Q
open Go.RowKit
section
variable {P : Program} {ops : Array Oper} {o : Oper} {σ : St} {q : Bool}
def Keeps (w : World) (K : List (Nat × Obj)) : Prop := ∀ x ∈ K, w.heap[x.1]? = some x.2
theorem Keeps.lt {w : World} {K : List (Nat × Obj)} (h : Keeps w K) : ∀ x ∈ K, x.1 < w.heap.size := fun x hx => (Array.getElem?_eq_some_iff.1 (h x hx)).1
def FnCk (P : Program) (f : FuncId) (K : List (Nat × Obj)) (ins : List (Bool × V0)) (out : V) : Prop := Callee P f ∧ ∀ w vs F, Good w F → V0c w F ins vs F → F.Nodup → (∀ b ∈ F, Thaw w b) → Keeps w K → (∀ x ∈ K, x.1 ∉ F) → Calls P f (List.toArray vs) w (CPost w out F)
theorem FnCk.walk {n : Nat} {f : FuncId} {fn : Func} {c : Code} {K : List (Nat × Obj)} {ins : List (Bool × V0)} {out : V} {σ' : St} (hf : P.funcs[f]? = some fn) (hb : fn.body = some c) (hname : (fn.name == "runtime.NumGoroutine") = false) (hnt : fn.ntmps = n) (hn : Nat.ble ins.length n = true) (hi : initC 0 ins ⟨n, [], [(999999, .kept K)]⟩ = some σ')
 (h : ∀ w0, AW P w0 c (RetQ P fn true out) σ') : FnCk P f K ins out := by
 subst hnt
 refine ⟨⟨fn, hf, hname, by rw [hb]; rfl⟩, fun w vs F hG hv hnd hth hK hKF => ?_⟩
 have hl := hv.len
 have hn' : ins.length ≤ fn.ntmps := Nat.le_of_ble_eq_true hn
 have hlt := hv.sub
 let a0 : Act := ⟨(List.toArray vs) ++ Array.replicate (fn.ntmps - (List.toArray vs).size) undef, []⟩
 let I0 : Ip := ⟨fun b => b < w.heap.size ∧ b ∉ F, fun _ => [], fun _ => undef, fun _ => 0⟩
 have hr0 : RelI I0 ⟨w, F, hG⟩ ⟨fn.ntmps, [], [(999999, .kept K)]⟩ a0 w := by
  refine ⟨Chg.refl w F, rfl, by simp [a0, hl]; omega, fun i z hi => (by cases hi), fun id r hi => ?_, fun b hb => hb.1, fun id b hb => (by cases hb), fun id r hi => ⟨List.nodup_nil, fun b hb => (by cases hb)⟩, fun i j _ b hb => (by cases hb)⟩
  rw [look_cons] at hi
  split at hi
  · cases hi; exact ⟨rfl, fun x hx => ⟨hK x hx, hK.lt x hx, hKF x hx⟩⟩
  · cases hi
 obtain ⟨I1, r1⟩ := initC_ok (fun _ _ _ => trivial) hi hr0 (fun b h1 h2 => ⟨h1, h2⟩) hv hnd (fun b hb => ⟨.inr hb, hlt b hb, hth b hb, fun hz => hz.2 hb, fun i hi => by cases hi⟩) fun j v hj => by
  have hjl : j < vs.length := (List.getElem?_eq_some_iff.1 hj).1
  simp only [Nat.zero_add, a0]
  rw [Array.getD_eq_getD_getElem?, Array.getElem?_append_left (by simpa using hjl)]
  simp [hj]
 refine calls_of_wp hf hb (Code.wp_mono ?_ (h ⟨w, F, hG⟩ _ _ ⟨_, r1⟩))
 rintro e a' w' ⟨σ1, h1, I, hI⟩
 have key : Res P fn true out σ1 → a'.defers = [] ∧ ∃ v', (results fn a'.tmps).run P w' = .ok v' w' ∧ CPost w out F (.returned v') w' := fun h1 => by
  obtain ⟨v', F', g1, g2, g3, g4⟩ := h1 I ⟨w, F, hG⟩ a' w' hI
  exact ⟨hI.defers, v', g1, v', F', rfl, g2, (g4 rfl).1, fun b hb => ⟨g3 b hb, (g4 rfl).2 b hb⟩, hI.ext⟩
 cases e with
 | normal => exact key h1
 | ret => exact key h1
 | exit id => exact h1.elim
 | goto l => exact h1.elim
 | panic c => exact h1.elim
 | outgrown => exact h1.elim
theorem Rws_split {o : Bool} {w : World} {b : Nat} : ∀ {ts : List T} {off : Nat} {F : List Nat}, Rws o w b 1 off (ts.map fun t => [t]) F → ∃ (hs : List Value) (Gs : List (List Nat)), hs.length = ts.length ∧ Gs.length = ts.length ∧ F = Gs.flatten ∧
 ∀ i t, ts[i]? = some t → ∃ h G, hs[i]? = some h ∧ Gs[i]? = some G ∧ w.cell? ⟨b, off + i, none⟩ = some h ∧ C o w t h G
 | [], off, F, h => by simp only [List.map_nil, Rws] at h; exact ⟨[], [], rfl, rfl, h, fun i t hi => by simp at hi⟩
 | t :: ts, off, F, h => by
  simp only [List.map_cons, Rws, Ms] at h
  obtain ⟨G1, G2, _, ⟨c, A1, A2, h1, h2, rfl, rfl⟩, h3, rfl⟩ := h
  obtain ⟨hs, Gs, e1, e2, e3, e4⟩ := Rws_split h3
  refine ⟨c :: hs, A1 :: Gs, by simp [e1], by simp [e2], by simp [e3], fun i u hi => ?_⟩
  match i, hi with
  | 0, hi => simp at hi; subst hi; exact ⟨c, A1, rfl, rfl, h1, h2⟩
  | i + 1, hi =>
   obtain ⟨h, G, g1, g2, g3, g4⟩ := e4 i u (by simpa using hi)
   exact ⟨h, G, by simpa using g1, by simpa using g2, by rw [show off + (i + 1) = off + 1 + i by omega]; exact g3, g4⟩
theorem Rws_join {o : Bool} {w : World} {b : Nat} {α : Type} {t : α → T} {h : α → Value} {G : α → List Nat} : ∀ {l : List α} {off : Nat}, (∀ i x, l[i]? = some x → w.cell? ⟨b, off + i, none⟩ = some (h x) ∧ C o w (t x) (h x) (G x)) → Rws o w b 1 off (l.map fun x => [t x]) (l.flatMap G)
 | [], off, _ => by simp [Rws]
 | x :: l, off, hc => by
  simp only [List.map_cons, Rws, Ms, List.flatMap_cons]
  obtain ⟨c1, c2⟩ := hc 0 x rfl
  refine ⟨G x, l.flatMap G, rfl, ⟨h x, G x, [], c1, c2, rfl, by simp⟩, Rws_join (h := h) fun i y hi => ?_, rfl⟩
  obtain ⟨d1, d2⟩ := hc (i + 1) y (by simpa using hi)
  exact ⟨by rw [show off + 1 + i = off + (i + 1) by omega]; exact d1, d2⟩
theorem C_split {w : World} {ts : List T} {v : Value} {F : List Nat} (hC : C true w (.sl 1 (ts.map fun t => [t])) v F) (hnd : F.Nodup) : ∃ (h : Nat → Value) (G : Nat → List Nat) (F0 : List Nat), (∀ i t, ts[i]? = some t → C true w t (h i) (G i)) ∧ C true w (.sl 1 ((List.range ts.length).map fun i => [.v (h i)])) v F0 ∧ F0.Nodup ∧
 (∀ b ∈ F0, b ∈ F) ∧ (∀ i, i < ts.length → ∀ b ∈ G i, b ∈ F ∧ b ∉ F0) ∧ (∀ i, i < ts.length → (G i).Nodup) ∧ ∀ i j, i < ts.length → j < ts.length → i ≠ j → ∀ b ∈ G i, b ∉ G j := by
 have hCc := hC
 simp only [C] at hCc
 obtain ⟨a, len, cap, rfl, h2, h3, h4, h5⟩ := hCc
 rcases h5 with ⟨h5, rfl, h6⟩ | ⟨b, off, G, rfl, rfl, h7, h8, h9⟩
 · have : ts = [] := List.eq_nil_of_length_eq_zero (by rw [List.length_map] at h2; omega)
   subst this
   exact ⟨fun _ => undef, fun _ => [], [], fun i t hi => by simp at hi, hC, List.nodup_nil, fun b hb => hb, fun i hi => by simp at hi, fun i hi => by simp at hi, fun i j hi => by simp at hi⟩
 · obtain ⟨hs, Gs, e1, e2, rfl, e4⟩ := Rws_split h9
   obtain ⟨n1, n2⟩ := List.nodup_cons.1 hnd
   have n2 := List.pairwise_flatten.1 n2
   have hG : ∀ i, i < ts.length → Gs.getD i [] ∈ Gs := fun i hi => by
    rw [List.getD_eq_getElem?_getD, List.getElem?_eq_getElem (by omega)]; exact List.getElem_mem _
   have hin : ∀ i, i < ts.length → ∀ x ∈ Gs.getD i [], x ∈ Gs.flatten := fun i hi x hx => List.mem_flatten.2 ⟨_, hG i hi, hx⟩
   refine ⟨fun i => hs.getD i undef, fun i => Gs.getD i [], [b], fun i t hi => ?_, ?_, by simp, fun x hx => by simp at hx; simp [hx], fun i hi x hx => ⟨by simp [hin i hi x hx], fun hb => ?_⟩, fun i hi => n2.1 _ (hG i hi), fun i j hi hj hne x hx hx' => ?_⟩
   · obtain ⟨h, A, g1, g2, g3, g4⟩ := e4 i t hi
     simp only [List.getD_eq_getElem?_getD, g1, g2, Option.getD_some]
     exact g4
   · simp only [C]
     refine ⟨_, _, _, rfl, by simpa using h2, h3, h4, .inr ⟨b, off, [], rfl, rfl, h7, h8, ?_⟩⟩
     have := Rws_join (o := true) (w := w) (b := b) (t := fun i => T.v (hs.getD i undef)) (h := fun i => hs.getD i undef) (G := fun _ => ([] : List Nat)) (l := List.range ts.length) (off := off) fun i x hi => by
      obtain ⟨hi1, hi2⟩ := List.getElem?_eq_some_iff.1 hi
      rw [List.length_range] at hi1
      simp at hi2
      subst hi2
      obtain ⟨h, A, g1, g2, g3, g4⟩ := e4 i _ (List.getElem?_eq_getElem hi1)
      simp only [List.getD_eq_getElem?_getD, g1, Option.getD_some]
      exact ⟨g3, by simp only [C]; exact ⟨trivial, trivial, g4.cell1⟩⟩
     have hz : (List.range ts.length).flatMap (fun _ => ([] : List Nat)) = [] := by rw [List.flatMap_eq_nil_iff]; intro _ _; rfl
     rw [hz] at this
     exact this
   · simp at hb; subst hb; exact n1 (hin i hi _ hx)
   · have hp := n2.2
     have key : ∀ i j, i < j → j < ts.length → ∀ x ∈ Gs.getD i [], ∀ y ∈ Gs.getD j [], x ≠ y := fun i j hij hj => by
      have := List.pairwise_iff_getElem.1 hp i j (by omega) (by omega) hij
      simpa [List.getD_eq_getElem?_getD, List.getElem?_eq_getElem (show i < Gs.length by omega), List.getElem?_eq_getElem (show j < Gs.length by omega)] using this
     rcases Nat.lt_or_gt_of_ne hne with g | g
     · exact key i j g hj x hx x hx' rfl
     · exact key j i g hi x hx' x hx rfl
theorem C_join {w : World} {α : Type} {t : α → T} {h : α → Value} {G : α → List Nat} {l : List α} {v : Value} {F0 : List Nat} (hC : C true w (.sl 1 (l.map fun i => [.v (h i)])) v F0) (ht : ∀ x ∈ l, C true w (t x) (h x) (G x)) : C true w (.sl 1 (l.map fun i => [t i])) v (F0 ++ if l = [] then [] else l.flatMap G) := by
 simp only [C] at hC ⊢
 obtain ⟨a, len, cap, rfl, h2, h3, h4, h5⟩ := hC
 rcases h5 with ⟨h5, rfl, h6⟩ | ⟨b, off, G0, rfl, rfl, h7, h8, h9⟩
 · have : l = [] := List.eq_nil_of_length_eq_zero (by rw [List.length_map] at h2; omega)
   subst this
   exact ⟨_, _, _, rfl, h2, h3, h4, .inl ⟨h5, rfl, h6⟩⟩
 · refine ⟨_, _, _, rfl, by simpa using h2, h3, h4, .inr ⟨b, off, l.flatMap G, rfl, ?_, h7, h8, Rws_join (h := h) fun i x hi => ?_⟩⟩
   · obtain ⟨hs, Gs, e1, e2, rfl, e4⟩ := Rws_split (ts := l.map fun i => T.v (h i)) (by rw [List.map_map]; exact h9)
     have : Gs.flatten = [] := by
      rw [List.flatten_eq_nil_iff]
      intro A hA
      obtain ⟨i, hi, rfl⟩ := List.mem_iff_getElem.1 hA
      obtain ⟨_, A, g1, g2, g3, g4⟩ := e4 i _ (List.getElem?_eq_getElem (by omega))
      rw [List.getElem?_eq_getElem hi] at g2
      cases g2
      simp [C] at g4
      exact g4.2.1
     rw [this]
     by_cases hl : l = []
     · subst hl; simp
     · simp [hl]
   · obtain ⟨hs, Gs, e1, e2, _, e4⟩ := Rws_split (ts := l.map fun i => T.v (h i)) (by rw [List.map_map]; exact h9)
     obtain ⟨c, A, g1, g2, g3, g4⟩ := e4 i (.v (h x)) (by simp [hi])
     simp only [C] at g4
     rw [g4.1] at g3
     exact ⟨g3, ht x (List.mem_of_getElem? hi)⟩
def KT (K : List (Nat × Obj)) (t : T) (h : Value) : Prop := ∀ w, Keeps w K → ∃ G, C false w t h G
def rdAll (rest : List V0) : List (Bool × V0) := rest.map fun x => (false, x)
theorem V0c_rdAll {w : World} {FF FF' : List Nat} (hs : ∀ b ∈ FF', b ∈ FF) : ∀ {rest : List V0} {vs : List Value} {G : List Nat}, V0c w FF (rdAll rest) vs G → G = [] ∧ V0c w FF' (rdAll rest) vs []
 | [], vs, G, ⟨h1, h2⟩ => ⟨h2, h1, rfl⟩
 | x :: r, vs, G, ⟨v, vr, G1, G2, e, h1, h2, h3⟩ => by
  simp only [Bool.false_eq_true, if_false] at h3
  obtain ⟨rfl, h3⟩ := h3
  obtain ⟨rfl, h4⟩ := V0c_rdAll hs (rest := r) h2
  refine ⟨rfl, v, vr, G1, [], e, h1, h4, ?_⟩
  simp only [Bool.false_eq_true, if_false]
  exact ⟨trivial, fun b hb hf => h3 b hb (hs b hf)⟩
theorem KT.of {w : World} {K : List (Nat × Obj)} {t : T} {h : Value} {G : List Nat} {o : Bool} (hC : C o w t h G) (hK : ∀ b ∈ G, ∃ x, w.heap[b]? = some x ∧ (b, x) ∈ K) : KT K t h := fun w' hw => ⟨G, hC.read'.congr fun b hb => by
 obtain ⟨x, h1, h2⟩ := hK b hb
 rw [h1]; exact hw _ h2⟩
def blocksOf (w : World) (Gs : List Nat) : List (Nat × Obj) := Gs.filterMap fun b => (w.heap[b]?).map fun x => (b, x)
theorem blocksOf_mem {w : World} {Gs : List Nat} {b : Nat} {x : Obj} : (b, x) ∈ blocksOf w Gs ↔ b ∈ Gs ∧ w.heap[b]? = some x := by
 unfold blocksOf
 rw [List.mem_filterMap]
 constructor
 · rintro ⟨c, h1, h2⟩
   rw [Option.map_eq_some_iff] at h2
   obtain ⟨y, h3, h4⟩ := h2
   cases h4
   exact ⟨h1, h3⟩
 · rintro ⟨h1, h2⟩
   exact ⟨b, h1, by rw [h2]; rfl⟩
theorem blocksOf_keeps {w : World} {Gs : List Nat} : Keeps w (blocksOf w Gs) := fun x hx => (blocksOf_mem (b := x.1) (x := x.2)).1 hx |>.2
theorem Good.part {w : World} {H G : List Nat} (h : Good w H) (hs : ∀ b ∈ G, b ∈ H) : Good w G := h.step (Nat.le_refl _) (fun _ _ _ => rfl) fun b hb => .inr (hs b hb)
theorem nodup_flatMap {α : Type} {G : α → List Nat} : ∀ {l : List α}, l.Nodup → (∀ x ∈ l, (G x).Nodup) → (∀ x ∈ l, ∀ y ∈ l, x ≠ y → ∀ b ∈ G x, b ∉ G y) → (l.flatMap G).Nodup
 | [], _, _, _ => List.nodup_nil
 | x :: l, hn, h1, h2 => by
  obtain ⟨n1, n2⟩ := List.nodup_cons.1 hn
  rw [List.flatMap_cons]
  refine List.nodup_append.2 ⟨h1 x (by simp), nodup_flatMap n2 (fun y hy => h1 y (by simp [hy])) (fun y hy z hz => h2 y (by simp [hy]) z (by simp [hz])), fun b hb c hc e => ?_⟩
  subst e
  obtain ⟨y, hy, hc⟩ := List.mem_flatMap.1 hc
  exact h2 x (by simp) y (by simp [hy]) (fun e => n1 (e ▸ hy)) b hb hc
theorem FnC.lift {f : FuncId} {ts : List T} {L : List Nat} {rest : List V0} (hcl : Callee P f) (hL : L.Nodup) (hLn : ∀ i ∈ L, i < ts.length)
 (h : ∀ (hd : Nat → Value) (K : List (Nat × Obj)), (∀ i t, ts[i]? = some t → KT K t (hd i)) → FnCk P f K ((true, .one (.sl 1 ((List.range ts.length).map fun i => [.v (hd i)]))) :: rdAll rest) (.a (.one (.sl 1 (L.map fun i => [.v (hd i)]))))) :
 FnC P f ((true, .one (.sl 1 (ts.map fun t => [t]))) :: rdAll rest) (.a (.one (.sl 1 (L.map fun i => [ts.getD i (.v undef)])))) := ⟨hcl, fun w vs F hG hv hnd hth => by
 obtain ⟨v, vr, G1, G2, rfl, h1, h2, h3⟩ := hv
 simp only [if_true] at h3
 obtain ⟨rfl, h2'⟩ := V0c_rdAll (FF' := F) (fun b hb => hb) h2
 rw [List.append_nil] at h3
 subst h3
 have h1 : C true w (.sl 1 (ts.map fun t => [t])) v F := h1
 obtain ⟨hd, G, F0, c1, c2, c3, c4, c5, c6, c7⟩ := C_split h1 hnd
 have hlt : ∀ b ∈ F, b < w.heap.size := h1.lt
 have hK : ∀ i t, ts[i]? = some t → KT (blocksOf w ((List.range ts.length).flatMap G)) t (hd i) := fun i t hi => KT.of (c1 i t hi) fun b hb => by
  have hil := (List.getElem?_eq_some_iff.1 hi).1
  exact ⟨_, Array.getElem?_eq_getElem (hlt b (c5 i hil b hb).1), blocksOf_mem.2 ⟨List.mem_flatMap.2 ⟨i, by simpa using hil, hb⟩, Array.getElem?_eq_getElem _⟩⟩
 refine ((h hd _ hK).2 w (v :: vr) F0 (hG.part c4) ⟨v, vr, F0, [], rfl, c2, (V0c_rdAll c4 h2').2, by simp⟩ c3 (fun b hb => hth b (c4 b hb)) blocksOf_keeps fun x hx hx' => ?_).mono fun e w' hR => ?_
 · obtain ⟨i, hi, hb⟩ := List.mem_flatMap.1 ((blocksOf_mem (b := x.1) (x := x.2)).1 hx).1
   exact (c5 i (by simpa using hi) _ hb).2 hx'
 · obtain ⟨v', F', e1, r1, r2, r3, r4⟩ := hR
   have r1 : C true w' (.sl 1 (L.map fun i => [.v (hd i)])) v' F' := r1
   have hsame : ∀ i ∈ L, ∀ b ∈ G i, w'.heap[b]? = w.heap[b]? := fun i hi b hb => r4.block b (hlt b (c5 i (hLn i hi) b hb).1) (c5 i (hLn i hi) b hb).2
   have hj := C_join (t := fun i => ts.getD i (.v undef)) (G := G) r1 fun i hi => by
    have hti : ts[i]? = some (ts.getD i (.v undef)) := by rw [List.getD_eq_getElem?_getD, List.getElem?_eq_getElem (hLn i hi)]; rfl
    exact (c1 i _ hti).congr (hsame i hi)
   have hflat : (if L = [] then [] else L.flatMap G) = L.flatMap G := by split <;> simp_all
   rw [hflat] at hj
   have hmem : ∀ b ∈ L.flatMap G, ∃ i ∈ L, b ∈ G i := fun b hb => List.mem_flatMap.1 hb
   refine ⟨v', F' ++ L.flatMap G, e1, hj, List.nodup_append.2 ⟨r2, nodup_flatMap hL (fun i hi => c6 i (hLn i hi)) (fun i hi j hj hne => c7 i j (hLn i hi) (hLn j hj) hne), fun b hb c hc ebc => ?_⟩, fun b hb => ?_, ⟨r4.os, r4.tape, r4.output, r4.size, fun k hk hn => r4.block k hk fun hk' => hn (c4 k hk')⟩⟩
   · subst ebc
     obtain ⟨i, hi, hb'⟩ := hmem b hc
     have q := c5 i (hLn i hi) b hb'
     rcases (r3 b hb).1 with g | g
     · have := hlt b q.1; omega
     · exact q.2 g
   · rcases List.mem_append.1 hb with hb | hb
     · exact ⟨(r3 b hb).1.imp id (c4 b), (r3 b hb).2⟩
     · obtain ⟨i, hi, hb'⟩ := hmem b hb
       have q := c5 i (hLn i hi) b hb'
       obtain ⟨cc, ee, o3⟩ := hth b q.1
       exact ⟨.inr q.1, cc, ee, (hsame i hi b hb').trans o3⟩⟩
end
end Go.Q
