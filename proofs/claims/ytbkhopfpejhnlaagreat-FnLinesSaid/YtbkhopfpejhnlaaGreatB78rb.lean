import Derived.Test.YtbkhopfpejhnlaaGreatB28rb
import Derived.Test.YtbkhopfpejhnlaaGreatB84rb
import Derived.Lib.SplitLaws
import Derived.Lib.Atoi
import Derived.WideLaws
import Derived.Test.YtbkhopfpejhnlaaGreatAbsHrb
import Derived.Shelf.Abstract
import Derived.Shelf.Strings.OnBuilder
import Derived.Shelf.Strconv.Itoa3
import Derived.Ground.NamesProg
import Derived.Shelf.Strings.SplitShaped
import Derived.Shelf.Strings.Shaped
import Derived.Shelf.Strings.Prefix
import Derived.Shelf.Small.Strs
import Derived.Shelf.Strconv.Atoi
import Derived.Shelf.Strconv.AtoiErr
set_option linter.unusedVariables false
set_option linter.unusedSimpArgs false
set_option maxHeartbeats 1000000
set_option maxRecDepth 100000
namespace Go.Q
open Go.D
end Go.Q
namespace Go.Proofs.YtbkhopfpejhnlaaGreat
open Go.RowKit Go.Q Go.D
theorem implpairSet' (L : List (List T)) (l : List TPair) (hL : L = l.map cPair) (hz : l.length ≤ 4294967296) : FnT Tryz.prog 127 [.one (.sl 2 L)] (.a (.one (.sl 2 ((setG pless l).map cPair)))) := by
 subst hL; exact implpairSet l hz
theorem implMergePairs (a b : List TPair) (hz : a.length + b.length ≤ 1073741824) : FnT Tryz.prog 109 [.one (.sl 2 (a.map cPair)), .one (.sl 2 (b.map cPair))] (.a (.one (.sl 2 ((pmerge a b).map cPair)))) := by
 refine FnT.walk Tryz.func109 U (by kernel_rfl) Tryz.ntmps109 U fun hlen w0 => ?_
 try simp [cPair, cToken, cExpr, cEdge, cGraph, cStep, cWalk, cChange, cBatch, cHistory, cPositions, cAutomaton, cProductStep, cPathAtom, cConjunction, cView, cDelta, cRegistered, cRegistry] at hlen
 refine AW.sr ?_
 refine AWl.ac U U U U U ?_
 refine AWl.nilS (i := 4) 20001 2 U U ?_
 refine AWl.nil (AW.sr ?_)
 refine AWl.add (R_empty 5 U U U Tryz.underlying58 ty63 U) U ?_
 refine AWl.mv U U U U U ?_
 refine AWl.chgput (R_append U U U (.tm U) U (.tm U) (by exact .t) (by exact isV_map (fun _ => rfl) _) Tryz.underlying58 in63 U (by (simp [chunk]; omega)) (by (unfold maxLen; simp [chunk]; omega))) U ?_
 refine AWl.le (σ' := ⟨_, [(0, _), (1, _), (4, _), (7, _)], [(20001, _), (5, _)]⟩) (Le.sub0 U ⟨U, U, U, U, trivial⟩ ⟨U, U, trivial⟩) ?_
 refine AWl.mv U U U U U ?_
 refine AWl.chgput (R_append U U U (.tm U) U (.tm U) (by exact .t) (by exact isV_map (fun _ => rfl) _) Tryz.underlying58 in63 U (by (simp [chunk]; omega)) (by (unfold maxLen; simp [chunk]; omega))) U ?_
 refine AWl.le (σ' := ⟨_, [(0, _), (1, _), (4, _), (9, _)], [(20001, _), (5, _)]⟩) (Le.sub0 U ⟨U, U, U, U, trivial⟩ ⟨U, U, trivial⟩) ?_
 refine AWl.adds (R_call 1000 (implpairSet' ([] ++ a.map cPair ++ b.map cPair) (a ++ b) (by simp) (by simp; omega)) U U U (.cons (.tm U) U .nil) U U) U ?_
 refine AWl.av U U U U U ?_
 refine AWl.nil (AW.ret ?_)
 refine Res.one U (.tmp U .nil) U ?_
 rfl
theorem specMergePairs (a b : List TPair) (hz : a.length + b.length ≤ 1073741824) : FnT Tryz.prog 84 [.one (.sl 2 (a.map cPair)), .one (.sl 2 (b.map cPair))] (.a (.one (.sl 2 ((pmerge a b).map cPair)))) := by
 refine FnT.walk Tryz.func84 U (by kernel_rfl) Tryz.ntmps84 U fun hlen w0 => ?_
 try simp [cPair, cToken, cExpr, cEdge, cGraph, cStep, cWalk, cChange, cBatch, cHistory, cPositions, cAutomaton, cProductStep, cPathAtom, cConjunction, cView, cDelta, cRegistered, cRegistry] at hlen
 refine AW.sr ?_
 refine AWl.ac U U U U U ?_
 refine AWl.nilS (i := 4) 20001 2 U U ?_
 refine AWl.nil (AW.sr ?_)
 refine AWl.add (R_empty 8 U U U Tryz.underlying58 ty63 U) U ?_
 refine AWl.av U U U U U ?_
 refine AWl.nil (AW.seq ?_)
 refine AW.sr ?_
 refine AWl.ac U U U U U ?_
 refine AWl.nil (AW.block ?_)
 refine AW.loop1 (fun (k : Nat) => (k ≤ a.length) ∧ True) (fun (k : Nat) => ⟨_, [(6, (true, .a (.one (.t (.v (.int .i64 (k : Nat))))))), (5, (true, .a (.one (.rf 8)))), (0, _), (1, _), (4, _)], [(8, .row 2 ((setG pless (a.take k)).map cPair))]⟩) (fun (k : Nat) => a.length - k) (0) ⟨Nat.zero_le _, trivial⟩ (Le.sub0 U ⟨U, U, U, U, U, trivial⟩ ⟨U, trivial⟩) ?_
 rintro k ⟨hk, he⟩
 refine AW.seq ?_
 refine AW.sr ?_
 refine AWl.mv U U U U U ?_
 refine AWl.mv U U U U U ?_
 refine AWl.put (by exact R_lenm U (.no U) U (.tm U) (by exact .t) Tryz.underlying58) U ?_
 refine AWl.put (R_lt U (.no U) U (.tm U) (.tm U)) U ?_
 refine AWl.nil ?_
 refine AW.cond (.tm U) (fun h12 => ?_) (fun h12 => ?_)
 · skip
   try simp at h12
   obtain ⟨x, hx⟩ : ∃ ξ, a[k]? = some ξ := ⟨_, List.getElem?_eq_getElem (by omega)⟩
   refine AW.skip ?_
   refine AW.seq ?_
   refine AW.block ?_
   refine AW.region ?_
   refine AWl.mv U U U U U ?_
   refine AWl.mv U U U U U ?_
   refine AWl.mv U U U U U ?_
   refine AWl.put (by exact R_indexAddr U (.no U) U (.tm U) (.tm U) Tryz.underlying58 ty63 (fun _ => ⟨by omega, (by exact map_get hx)⟩)) U ?_
   refine AWl.put (by exact R_load U (.no U) U (.tm U) ty63 U U) U ?_
   apply AWl.consume
   case ho =>
    apply R_consume (xo := .tmp 15) 8 (specl15Put (setG pless (a.take k)) x (Nat.le_trans (setG_len _) (by simp; omega))) rfl rfl rfl (.tm rfl)
    case ha => rfl
    case hargs => exact (ArgC.own (ArgRd.agg (.tm rfl) .nil))
    all_goals rfl
   case hd => rfl
   refine AWl.av U U U U U ?_
   refine AWl.nil ?_
   refine AW.le (σ' := ⟨_, [(0, _), (1, _), (4, _), (5, _), (6, _)], [(8, _)]⟩) (Le.sub0 U ⟨U, U, U, U, U, trivial⟩ ⟨U, trivial⟩) ?_
   refine AW.region ?_
   refine AWl.mv U U U U U ?_
   refine AWl.put (R_add U (.no U) U (.tm U) (.const U) (fun _ => by omega)) U ?_
   refine AWl.av U U U U U ?_
   refine AWl.nil ?_
   repeat (with_reducible refine BlockQ.nor ?_)
   refine Round1.next (k + 1) ⟨by omega, trivial⟩ (by omega) (Le.sub0 rfl ⟨rfl, rfl, rfl, rfl, rfl, trivial⟩ ⟨(by refine congrArg (fun r => some (R.row 2 r)) ?_; first | (simp [take_at hx, setG, List.foldl_append]; done) | (simp [take_at hy, setG, List.foldl_append]; done)), trivial⟩)
 · skip
   try simp at h12
   refine AW.exit ?_
   refine AW.seq ?_
   refine AW.seq ?_
   refine AW.le (σ' := ⟨_, [(0, _), (1, _), (4, _), (5, _), (6, _)], [(8, .row 2 ((setG pless (a ++ b.take 0)).map cPair))]⟩) (Le.sub0 U ⟨U, U, U, U, U, trivial⟩ ⟨by refine congrArg (fun r => some (R.row 2 r)) ?_; rw [List.take_of_length_le (by omega)]; simp, trivial⟩) ?_
   refine AW.region ?_
   refine AWl.ac U U U U U ?_
   refine AWl.nil (AW.block ?_)
   refine AW.loop1 (fun (k2 : Nat) => (k2 ≤ b.length) ∧ True) (fun (k2 : Nat) => ⟨_, [(7, (true, .a (.one (.t (.v (.int .i64 (k2 : Nat))))))), (5, (true, .a (.one (.rf 8)))), (1, _), (4, _)], [(8, .row 2 ((setG pless (a ++ b.take k2)).map cPair))]⟩) (fun (k2 : Nat) => b.length - k2) (0) ⟨Nat.zero_le _, trivial⟩ (Le.sub0 U ⟨U, U, U, U, trivial⟩ ⟨U, trivial⟩) ?_
   rintro k2 ⟨hk1, he1⟩
   refine AW.seq ?_
   refine AW.sr ?_
   refine AWl.mv U U U U U ?_
   refine AWl.mv U U U U U ?_
   refine AWl.put (by exact R_lenm U (.no U) U (.tm U) (by exact .t) Tryz.underlying58) U ?_
   refine AWl.put (R_lt U (.no U) U (.tm U) (.tm U)) U ?_
   refine AWl.nil ?_
   refine AW.cond (.tm U) (fun h24 => ?_) (fun h24 => ?_)
   · skip
     try simp at h24
     obtain ⟨y, hy⟩ : ∃ ξ, b[k2]? = some ξ := ⟨_, List.getElem?_eq_getElem (by omega)⟩
     refine AW.skip ?_
     refine AW.seq ?_
     refine AW.block ?_
     refine AW.region ?_
     refine AWl.mv U U U U U ?_
     refine AWl.mv U U U U U ?_
     refine AWl.mv U U U U U ?_
     refine AWl.put (by exact R_indexAddr U (.no U) U (.tm U) (.tm U) Tryz.underlying58 ty63 (fun _ => ⟨by omega, (by exact map_get hy)⟩)) U ?_
     refine AWl.put (by exact R_load U (.no U) U (.tm U) ty63 U U) U ?_
     apply AWl.consume
     case ho =>
      apply R_consume (xo := .tmp 27) 8 (specl15Put (setG pless (a ++ b.take k2)) y (Nat.le_trans (setG_len _) (by simp; omega))) rfl rfl rfl (.tm rfl)
      case ha => rfl
      case hargs => exact (ArgC.own (ArgRd.agg (.tm rfl) .nil))
      all_goals rfl
     case hd => rfl
     refine AWl.av U U U U U ?_
     refine AWl.nil ?_
     refine AW.le (σ' := ⟨_, [(1, _), (4, _), (5, _), (7, _)], [(8, _)]⟩) (Le.sub0 U ⟨U, U, U, U, trivial⟩ ⟨U, trivial⟩) ?_
     refine AW.region ?_
     refine AWl.mv U U U U U ?_
     refine AWl.put (R_add U (.no U) U (.tm U) (.const U) (fun _ => by omega)) U ?_
     refine AWl.av U U U U U ?_
     refine AWl.nil ?_
     repeat (with_reducible refine BlockQ.nor ?_)
     refine Round1.next (k2 + 1) ⟨by omega, trivial⟩ (by omega) (Le.sub0 rfl ⟨rfl, rfl, rfl, rfl, trivial⟩ ⟨(by refine congrArg (fun r => some (R.row 2 r)) ?_; first | (simp [take_at hx, setG, List.foldl_append]; done) | (simp [take_at hy, setG, List.foldl_append]; done)), trivial⟩)
   · skip
     try simp at h24
     refine AW.exit ?_
     refine AW.sr ?_
     refine AWl.mv U U U U U ?_
     refine AWl.av U U U U U ?_
     refine AWl.nil (AW.ret ?_)
     refine Res.one U (.tmp U .nil) U ?_
     unfold pmerge; rw [List.take_of_length_le (by omega)]; rfl
end Go.Proofs.YtbkhopfpejhnlaaGreat
set_option maxHeartbeats 1000000
set_option maxRecDepth 100000
namespace Go.Q
open Go.D
def splitL (c : UInt8) : List UInt8 → List (List UInt8)
 | [] => [[]]
 | b :: l => if b = c then [] :: splitL c l else (b :: (splitL c l).headD []) :: (splitL c l).tail
theorem splitL_no {c : UInt8} : ∀ {l : List UInt8}, c ∉ l → splitL c l = [l]
 | [], _ => rfl
 | b :: l, h => by
  unfold splitL
  rw [if_neg (fun e => h (by simp [e])), splitL_no fun hm => h (by simp [hm])]
  rfl
theorem splitL_hit {c : UInt8} {r : List UInt8} : ∀ {l : List UInt8}, c ∉ l → splitL c (l ++ c :: r) = l :: splitL c r
 | [], _ => by rw [List.nil_append, splitL, if_pos rfl]
 | b :: l, h => by
  rw [List.cons_append, splitL, if_neg (fun e => h (by simp [e])), splitL_hit fun hm => h (by simp [hm])]
  rfl
theorem splitL_len (c : UInt8) : ∀ l : List UInt8, (splitL c l).length = l.count c + 1
 | [] => rfl
 | b :: l => by
  unfold splitL
  have ih := splitL_len c l
  split
  · rename_i h; subst h; rw [List.length_cons, ih, List.count_cons_self]
  · rename_i h
    rw [List.length_cons, List.length_tail, ih, List.count_cons_of_ne (by simpa using h)]; omega
theorem cut_step {c b : UInt8} {l : List UInt8} {O : List (List UInt8)} {F i : Nat} (hb : l[i]? = some b) (hi : F ≤ i ∧ i ≤ l.length ∧ c ∉ (l.take i).drop F ∧ O.length ≤ i) (hbe : b = c) (he : splitL c l = O ++ splitL c (l.drop F)) :
 splitL c l = (O ++ [(l.take i).drop F]) ++ splitL c (l.drop (i + 1)) := by
 subst hbe
 have hl := (List.getElem?_eq_some_iff.1 hb).1
 have e : l.drop F = (l.take i).drop F ++ b :: l.drop (i + 1) := by
  conv => lhs; rw [← List.take_append_drop i l]
  rw [List.drop_append, List.length_take, show F - min i l.length = 0 by omega, List.drop_zero, List.drop_eq_getElem_cons hl, (List.getElem?_eq_some_iff.1 hb).2]
 rw [he, e, splitL_hit hi.2.2.1]
 simp
theorem cut_keep {c b : UInt8} {l : List UInt8} {O : List (List UInt8)} {F i : Nat} (hb : l[i]? = some b) (hi : F ≤ i ∧ i ≤ l.length ∧ c ∉ (l.take i).drop F ∧ O.length ≤ i) (hbe : b ≠ c) : c ∉ (l.take (i + 1)).drop F := by
 have hl := (List.getElem?_eq_some_iff.1 hb).1
 rw [List.take_add_one, hb, List.drop_append, List.length_take]
 intro h
 rcases List.mem_append.1 h with h | h
 · exact hi.2.2.1 h
 · rw [show F - min i l.length = 0 by omega] at h
   simp at h
   exact hbe h.symm
theorem bs_get (l : List UInt8) (n : Nat) : (bs l)[n]? = l[n]? := by
 show (bs l).data[n]? = l[n]?
 simp [bs]
theorem bs_extract (l : List UInt8) (n m : Nat) : (bs l).extract n m = bs ((l.take m).drop n) := by
 apply ByteArray.ext
 rw [ByteArray.data_extract]
 apply Array.ext'
 rw [Array.toList_extract, List.extract_eq_take_drop, bs_list]
 simp only [bs]
 rw [List.drop_take]
end Go.Q
namespace Go.Q
open Go.RowKit
section
variable {P : Program} {ops : Array Oper} {o : Oper} {σ : St} {q : Bool}
theorem wrapI {n : Int} (h : -9223372036854775808 ≤ n ∧ n ≤ 9223372036854775807) : IntKind.i64.wrap n = n := wrap_in h
def FrE (P : Program) (f : FuncId) (ins : List V0) (Out : V → Prop) : Prop := Callee P f ∧ ∀ w vs F, Good w [] → V0s false w ins vs F → Calls P f (List.toArray vs) w fun e w' => ∃ out, Out out ∧ FrPost w out e w'
theorem R_calle {f : FuncId} {l : List Operand} {tys : Array TypeId} {ins : List V0} {Out : V → Prop} (h : FrE P f ins Out) (ho : o.op = .call { callee := .value (.func f), args := l.toArray, argTypes := tys }) (hg : o.guard = none) (hd : o.dst.all (fun d => Nat.blt d σ.n) = true)
 (ha : Args σ true l ins) : OpE P ops o σ fun σ' => ∃ out, Out out ∧ σ' = σ.put o.dst (true, inS out) := by
 rintro w0 a w ⟨I, hr⟩ K Q hK
 simp only [Region.wanted, hg, if_true]
 obtain ⟨F, hF⟩ := ha.ok hr rfl
 unfold Oper.wp
 rw [run_enter h.1 ho]
 refine (h.2 w _ F hr.good hF).mono fun e w' hR => ?_
 obtain ⟨out, hout, v, G, rfl, h1, h3, h4⟩ := hR
 have hr' := (hr.later h4).also (G := G) fun b hb => ⟨Vr.lt h1 b hb, fun i hi => by have := (hr.lt i b hi).1; have := h3 b hb; omega⟩
 exact hK _ _ _ ⟨out, hout, rfl⟩ ⟨_, hr'.put hd (VS_also h1 fun b hb => .inr hb)⟩
end
end Go.Q
namespace Go.Q
open Go.RowKit
section
variable {P : Program} {ops : Array Oper} {o : Oper} {σ : St} {q : Bool}
end
end Go.Q
namespace Go.Q
open Go.RowKit
section
variable {P : Program} {ops : Array Oper} {o : Oper} {σ : St}
inductive GetL (σ : St) : List Operand → List E → Prop where
 | nil : GetL σ [] []
 | cons {x : Operand} {e : E} {l : List Operand} {es : List E} (hx : Get σ true x (.one e)) (h : GetL σ l es) : GetL σ (x :: l) (e :: es)
end
end Go.Q
set_option maxHeartbeats 1000000
set_option maxRecDepth 100000
namespace Go.Proofs.YtbkhopfpejhnlaaGreat
open Go.RowKit Go.Q Go.D Go.Shelf
end Go.Proofs.YtbkhopfpejhnlaaGreat
set_option maxHeartbeats 1000000
set_option maxRecDepth 100000
namespace Go.Q
open Go.RowKit
end Go.Q
namespace Go.Proofs.YtbkhopfpejhnlaaGreat
open Go.RowKit Go.Q Go.D Go.Shelf
end Go.Proofs.YtbkhopfpejhnlaaGreat
set_option maxHeartbeats 1000000
set_option maxRecDepth 100000
namespace Go.Q
open Go.D
end Go.Q
set_option maxHeartbeats 1000000
set_option maxRecDepth 100000
namespace Go.Proofs.YtbkhopfpejhnlaaGreat
open Go.RowKit Go.Q Go.D Go.Shelf
end Go.Proofs.YtbkhopfpejhnlaaGreat
set_option maxHeartbeats 1000000
set_option maxRecDepth 100000
namespace Go.Proofs.YtbkhopfpejhnlaaGreat
open Go.RowKit Go.Q Go.D
theorem specFormatInt (n : Int) (h0 : 0 ≤ n) (h1 : n < 100) : FnT Tryz.prog 146 [.one (.v (.int .i64 n))] (.a (.one (.v (.string (bs (numS n)))))) := by
 obtain ⟨n0, rfl⟩ := Int.eq_ofNat_of_zero_le h0
 refine FnT.walk Tryz.func146 U (by kernel_rfl) Tryz.ntmps146 U fun hlen w0 => ?_
 try simp [cPair, cToken, cExpr, cEdge, cGraph, cStep, cWalk, cChange, cBatch, cHistory, cPositions, cAutomaton, cProductStep, cPathAtom, cConjunction, cView, cDelta, cRegistered, cRegistry] at hlen
 have hn0 : n0 < 100 := by omega
 refine AW.sr ?_
 refine AWl.ac U U U U U ?_
 refine AWl.nil (AW.seq ?_)
 refine AW.sr ?_
 refine AWl.mv U U U U U ?_
 refine AWl.put (R_eq U (.no U) U (.tm U) (.const U)) U ?_
 refine AWl.nil ?_
 refine AW.cond (.tm U) (fun h7 => ?_) (fun h7 => ?_)
 · skip
   try simp at h7
   refine AW.sr ?_
   refine AWl.ac U U U U U ?_
   refine AWl.nil (AW.ret ?_)
   refine Res.v U U ?_
   (have e : n0 = 0 := (by omega); subst e; unfold numS; rw [dig_small (by simp)]; rfl)
 · skip
   try simp at h7
   refine AW.skip ?_
   refine AW.sr ?_
   refine AWl.ac U U U U U ?_
   refine AWl.nil (AW.sr ?_)
   refine AWl.mv U U U U U ?_
   refine AWl.put (R_lt U (.no U) U (.tm U) (.const U)) U ?_
   refine AWl.av U U U U U ?_
   refine AWl.nil (AW.seq ?_)
   refine AW.block ?_
   refine AW.loop2 (fun (m : Nat) (O : ByteArray) => (m < 100 ∧ O.size + 2 * m ≤ 1000) ∧ bs (restD n0) = bs (restD m) ++ O) (fun (m : Nat) (O : ByteArray) => ⟨_, [(0, (true, .a (.one (.t (.v (.int .i64 (m : Nat))))))), (3, (true, .a (.one (.t (.v (.string O)))))), (2, _), (4, _)], []⟩) (fun (m : Nat) (O : ByteArray) => m) (n0) (⟨#[]⟩) ⟨⟨by omega, by simp [ByteArray.size]; omega⟩, (by rw [show (⟨#[]⟩ : ByteArray) = bs [] from U, bs_append, List.append_nil])⟩ (Le.sub0 U ⟨U, U, U, U, trivial⟩ trivial) ?_
   rintro m O ⟨hk, he⟩
   refine AW.seq ?_
   refine AW.sr ?_
   refine AWl.mv U U U U U ?_
   refine AWl.put (R_ne U (.no U) U (.tm U) (.const U)) U ?_
   refine AWl.nil ?_
   refine AW.cond (.tm U) (fun h11 => ?_) (fun h11 => ?_)
   · skip
     try simp at h11
     have hm0 : m ≠ 0 := by (first | omega | (simp at h11; omega))
     refine AW.skip ?_
     refine AW.block ?_
     refine AW.sr ?_
     refine AWl.mv U U U U U ?_
     refine AWl.put (R_rem U (.no U) U (.tm U) (.const U) (fun _ => by omega)) U ?_
     refine AWl.av U U U U U ?_
     refine AWl.nil (AW.seq ?_)
     refine AW.sr ?_
     refine AWl.mv U U U U U ?_
     refine AWl.put (R_lt U (.no U) U (.tm U) (.const U)) U ?_
     refine AWl.nil ?_
     refine AW.cond (.tm U) (fun h15 => ?_) (fun h15 => ?_)
     · exact absurd h15 (by (first | omega | (simp at h15; omega)))
     · skip
       try simp at h15
       refine AW.skip ?_
       refine AW.seq ?_
       refine AW.le (σ' := ⟨_, [(0, _), (2, _), (3, _), (4, _), (5, _)], []⟩) (Le.sub0 U ⟨U, U, U, U, U, trivial⟩ trivial) ?_
       refine AW.region ?_
       refine AWl.mv U U U U U ?_
       refine AWl.put (R_add U (.no U) U (.const U) (.tm U) (fun _ => by omega)) U ?_
       refine AWl.put (R_conv U (.no U) U (.tm U) (by rw [Tryz.underlying3]; rfl) Tryz.underlying5 (fun _ => (show IntKind.u8.wrap _ = (48 + (m : Int) % 10) by simp [IntKind.wrap, IntKind.bits]; omega))) U ?_
       refine AWl.put (R_listz (xs := [.tmp 20]) (rows := [[.v (.int .u8 (48 + (m : Int) % 10))]]) U U U (.cons (.tm U) U U .nil) Tryz.underlying22 in5 U U (U)) U ?_
       refine AWl.put (R_byteStr U (.no U) U (.tm U) Tryz.underlying22 Tryz.underlying5 Tryz.underlying9) U ?_
       refine AWl.mv U U U U U ?_
       refine AWl.put (R_cat U (.no U) U (.tm U) (.tm U) (fun _ => by have : (⟨#[UInt8.ofNat ((48 + (m : Int) % 10)).toNat]⟩ : ByteArray).size = 1 := U; omega)) U ?_
       refine AWl.av U U U U U ?_
       refine AWl.nil ?_
       refine AW.le (σ' := ⟨_, [(0, _), (2, _), (3, _), (4, _), (5, _)], []⟩) (Le.sub0 U ⟨U, U, U, U, U, trivial⟩ trivial) ?_
       refine AW.region ?_
       refine AWl.mv U U U U U ?_
       refine AWl.put (R_quo U (.no U) U (.tm U) (.const U) (fun _ => by omega)) U ?_
       refine AWl.av U U U U U ?_
       refine AWl.nil ?_
       repeat (with_reducible refine BlockQ.nor ?_)
       refine Round2.next (m / 10) (((ByteArray.mk #[UInt8.ofNat ((48 + (m : Int) % 10)).toNat]) ++ O)) ⟨⟨by omega, (by rw [ByteArray.size_append]; have : (⟨#[UInt8.ofNat ((48 + (m : Int) % 10)).toNat]⟩ : ByteArray).size = 1 := rfl; omega)⟩, (by rw [he, restD_step (by omega), ← bs_append, show (48 + (m : Int) % 10).toNat = 48 + m % 10 by omega]; rw [ByteArray.append_assoc]; rfl)⟩ (by omega) (Le.sub0 rfl ⟨rfl, rfl, rfl, rfl, trivial⟩ trivial)
   · skip
     try simp at h11
     refine AW.exit ?_
     refine AW.seq ?_
     refine AW.sr ?_
     refine AWl.mv U U U U U ?_
     refine AWl.nil ?_
     refine AW.cond (.tm U) (fun h27 => ?_) (fun h27 => ?_)
     · exact absurd h27 (by simp)
     · skip
       try simp at h27
       refine AW.skip ?_
       refine AW.sr ?_
       refine AWl.mv U U U U U ?_
       refine AWl.av U U U U U ?_
       refine AWl.nil (AW.ret ?_)
       refine Res.v U U ?_
       (have e : m = 0 := (by omega); have e0 : n0 ≠ 0 := (by omega); rw [e] at he; unfold restD at he; rw [if_neg e0, if_pos rfl] at he; unfold numS; rw [Int.toNat_natCast, he, bs_nil_append])
theorem specFormatLetter (k : Int) (h0 : 0 ≤ k) (h8 : k ≤ 8) : FnT Tryz.prog 145 [.one (.v (.int .i64 k))] (.a (.one (.v (.string (bs (letS k)))))) := by
 refine FnT.walk Tryz.func145 U (by kernel_rfl) Tryz.ntmps145 U fun hlen w0 => ?_
 try simp [cPair, cToken, cExpr, cEdge, cGraph, cStep, cWalk, cChange, cBatch, cHistory, cPositions, cAutomaton, cProductStep, cPathAtom, cConjunction, cView, cDelta, cRegistered, cRegistry] at hlen
 have hl : inB k 0 8 = true := by unfold inB; simp; omega
 refine AW.sr ?_
 refine AWl.ac U U U U U ?_
 refine AWl.nil (AW.seq ?_)
 refine AW.sr ?_
 refine AWl.mv U U U U U ?_
 refine AWl.put (R_callz (FnT.fr (specl2Letter k)) U (.no U) U (.cons (.tm U) U .nil)) U ?_
 refine AWl.put (R_not U (.no U) U (.tm U)) U ?_
 refine AWl.nil ?_
 refine AW.cond (.tm U) (fun h5 => ?_) (fun h5 => ?_)
 · exact absurd h5 (by simp [hl] at h5)
 · skip
   try simp at h5
   refine AW.skip ?_
   refine AW.sr ?_
   refine AWl.put (R_listz (xs := [.const (.string ⟨#[97]⟩), .const (.string ⟨#[97, 45]⟩), .const (.string ⟨#[98]⟩), .const (.string ⟨#[98, 45]⟩), .const (.string ⟨#[99]⟩), .const (.string ⟨#[99, 45]⟩), .const (.string ⟨#[48]⟩), .const (.string ⟨#[49]⟩), .const (.string ⟨#[50]⟩)]) (rows := letNames.map cStr) U U U (.cons (.const U) U U (.cons (.const U) U U (.cons (.const U) U U (.cons (.const U) U U (.cons (.const U) U U (.cons (.const U) U U (.cons (.const U) U U (.cons (.const U) U U (.cons (.const U) U U .nil))))))))) Tryz.underlying140 in9 U U (U)) U ?_
   refine AWl.mv U U U U U ?_
   refine AWl.put (by exact R_indexAddr U (.no U) U (.tm U) (.tm U) Tryz.underlying140 ty9 (fun _ => ⟨by omega, (letS_get h0 h8)⟩)) U ?_
   refine AWl.put (by exact R_load U (.no U) U (.tm U) ty9 U U) U ?_
   refine AWl.av U U U U U ?_
   refine AWl.nil (AW.ret ?_)
   refine Res.v U U ?_
   rfl
end Go.Proofs.YtbkhopfpejhnlaaGreat
set_option maxHeartbeats 1000000
set_option maxRecDepth 100000
namespace Go.Q
open Go.D
end Go.Q
namespace Go.Proofs.YtbkhopfpejhnlaaGreat
open Go.RowKit Go.Q Go.D
theorem specl8Token (t : TToken) (h : 0 ≤ arity t) : FnT Tryz.prog 140 [.agg (cToken t)] (.a (.one (.v (.string (bs (tokS t)))))) := by
 refine FnT.walk Tryz.func140 U (by kernel_rfl) Tryz.ntmps140 U fun hlen w0 => ?_
 try simp [cPair, cToken, cExpr, cEdge, cGraph, cStep, cWalk, cChange, cBatch, cHistory, cPositions, cAutomaton, cProductStep, cPathAtom, cConjunction, cView, cDelta, cRegistered, cRegistry] at hlen
 skip
 have e1 : (⟨#[123]⟩ : ByteArray).size = 1 := rfl
 have e2 : (⟨#[44]⟩ : ByteArray).size = 1 := rfl
 have e3 : (⟨#[125]⟩ : ByteArray).size = 1 := rfl
 refine AW.sr ?_
 refine AWl.put (R_boxz U U U (.tm U) (ts := _) (by rfl)) U ?_
 refine AWl.ac U U U U U ?_
 refine AWl.nil (AW.seq ?_)
 refine AW.sr ?_
 refine AWl.put (by exact R_fieldAddr U (.no U) U (.tm U) fl100_0) U ?_
 refine AWl.put (by exact R_load U (.no U) U (.tm U) ty3 U U) U ?_
 refine AWl.nil (AW.block ?_)
 refine AW.sr ?_
 refine AWl.put (R_eq U (.no U) U (.tm U) (.const U)) U ?_
 refine AWl.av U U U U U ?_
 refine AWl.nil ?_
 refine AW.cond (.tm U) (fun h5 => ?_) (fun h5 => ?_)
 · skip
   try simp at h5
   refine AW.sr ?_
   refine AWl.ac U U U U U ?_
   refine AWl.nil (AW.ret ?_)
   refine Res.v U U ?_
   (unfold tokS; rw [if_pos h5]; rfl)
 · skip
   try simp at h5
   refine AW.sr ?_
   refine AWl.put (R_eq U (.no U) U (.tm U) (.const U)) U ?_
   refine AWl.av U U U U U ?_
   refine AWl.nil ?_
   refine AW.cond (.tm U) (fun h7 => ?_) (fun h7 => ?_)
   · skip
     try simp at h7
     refine AW.sr ?_
     refine AWl.ac U U U U U ?_
     refine AWl.nil (AW.ret ?_)
     refine Res.v U U ?_
     (unfold tokS; rw [if_neg h5, if_pos h7]; rfl)
   · skip
     try simp at h7
     refine AW.sr ?_
     refine AWl.put (R_eq U (.no U) U (.tm U) (.const U)) U ?_
     refine AWl.av U U U U U ?_
     refine AWl.nil ?_
     refine AW.cond (.tm U) (fun h9 => ?_) (fun h9 => ?_)
     · skip
       try simp at h9
       refine AW.seq ?_
       refine AW.le (σ' := ⟨_, [(0, _), (1, _), (2, _), (4, _)], []⟩) (Le.sub0 U ⟨U, U, U, U, trivial⟩ trivial) ?_
       refine AW.region ?_
       refine AWl.put (by exact R_fieldAddr U (.no U) U (.tm U) fl100_1) U ?_
       refine AWl.put (by exact R_load U (.no U) U (.tm U) ty3 U U) U ?_
       refine AWl.put (R_callz (FnT.fr (specFormatLetter t.Letter (tok_let h h9).1 (tok_let h h9).2)) U (.no U) U (.cons (.tm U) U .nil)) U ?_
       refine AWl.av U U U U U ?_
       refine AWl.nil (AW.ret ?_)
       refine Res.v U U ?_
       (unfold tokS; rw [if_neg h5, if_neg h7, if_pos h9])
     · skip
       try simp at h9
       refine AW.seq ?_
       refine AW.le (σ' := ⟨_, [(0, _), (1, _), (2, _), (4, _)], []⟩) (Le.sub0 U ⟨U, U, U, U, trivial⟩ trivial) ?_
       refine AW.region ?_
       refine AWl.put (R_eq U (.no U) U (.tm U) (.const U)) U ?_
       refine AWl.av U U U U U ?_
       refine AWl.nil ?_
       refine AW.cond (.tm U) (fun h14 => ?_) (fun h14 => ?_)
       · skip
         try simp at h14
         refine AW.sr ?_
         refine AWl.ac U U U U U ?_
         refine AWl.nil (AW.ret ?_)
         refine Res.v U U ?_
         (unfold tokS; rw [if_neg h5, if_neg h7, if_neg h9, if_pos h14]; rfl)
       · skip
         try simp at h14
         refine AW.sr ?_
         refine AWl.put (R_eq U (.no U) U (.tm U) (.const U)) U ?_
         refine AWl.av U U U U U ?_
         refine AWl.nil ?_
         refine AW.cond (.tm U) (fun h16 => ?_) (fun h16 => ?_)
         · skip
           try simp at h16
           refine AW.sr ?_
           refine AWl.ac U U U U U ?_
           refine AWl.nil (AW.ret ?_)
           refine Res.v U U ?_
           (unfold tokS; rw [if_neg h5, if_neg h7, if_neg h9, if_neg h14, if_pos h16]; rfl)
         · skip
           try simp at h16
           refine AW.sr ?_
           refine AWl.put (R_eq U (.no U) U (.tm U) (.const U)) U ?_
           refine AWl.av U U U U U ?_
           refine AWl.nil ?_
           refine AW.cond (.tm U) (fun h18 => ?_) (fun h18 => ?_)
           · skip
             try simp at h18
             refine AW.seq ?_
             refine AW.le (σ' := ⟨_, [(0, _), (1, _), (2, _), (4, _)], []⟩) (Le.sub0 U ⟨U, U, U, U, trivial⟩ trivial) ?_
             refine AW.region ?_
             refine AWl.ac U U U U U ?_
             refine AWl.nil (AW.ret ?_)
             refine Res.v U U ?_
             (unfold tokS; rw [if_neg h5, if_neg h7, if_neg h9, if_neg h14, if_neg h16, if_pos h18]; rfl)
           · skip
             try simp at h18
             have hr := tok_rep h h5 h7 h9 h14 h16 h18
             have s1 := numS_len (n := t.Low) (by omega)
             have s2 := numS_len (n := t.High) (by omega)
             refine AW.skip ?_
             refine AW.seq ?_
             refine AW.le (σ' := ⟨_, [(0, _), (1, _), (2, _), (4, _)], []⟩) (Le.sub0 U ⟨U, U, U, U, trivial⟩ trivial) ?_
             refine AW.drawn 11 (nthB [[], [0], [0, 1], [0, 1, 2], [0, 1, 2, 3], [], [5], [0, 1, 2, 5, 6], [0, 1, 2, 3, 4, 5, 6, 7], [0, 1, 2, 3, 4, 5, 6, 7, 8], [0, 1, 2, 3, 4, 5, 6, 7, 8, 9]]) (by kernel_rfl) (by kernel_rfl) (by kernel_rfl) ?_
             refine DrawC.step U U U (Loc.of U fun σ' hs => (by exact R_fieldAddr U (.no U) (hd_sup hs U) (.tm (hs.slots _ _ U)) fl100_2)) ?_
             refine DrawC.step U U U (Loc.of U fun σ' hs => (by exact R_load U (.no U) (hd_sup hs U) (.tm (hs.slots _ _ U)) ty3 U U)) ?_
             refine DrawC.step U U U (Loc.of U fun σ' hs => R_callz (FnT.fr (specFormatInt t.Low (by omega) (by omega))) U (.no U) (hd_sup hs U) (.cons (.tm (hs.slots _ _ U)) (readA_sup hs U) .nil)) ?_
             refine DrawC.step U U U (Loc.of U fun σ' hs => R_cat U (.no U) (hd_sup hs U) (.const U) (.tm (hs.slots _ _ U)) (fun _ => by simp only [ByteArray.size_append, bs_size]; omega)) ?_
             refine DrawC.step U U U (Loc.of U fun σ' hs => R_cat U (.no U) (hd_sup hs U) (.tm (hs.slots _ _ U)) (.const U) (fun _ => by simp only [ByteArray.size_append, bs_size]; omega)) ?_
             refine DrawC.step U U U (Loc.of U fun σ' hs => (by exact R_fieldAddr U (.no U) (hd_sup hs U) (.tm (hs.slots _ _ U)) fl100_3)) ?_
             refine DrawC.step U U U (Loc.of U fun σ' hs => (by exact R_load U (.no U) (hd_sup hs U) (.tm (hs.slots _ _ U)) ty3 U U)) ?_
             refine DrawC.step U U U (Loc.of U fun σ' hs => R_callz (FnT.fr (specFormatInt t.High (by omega) (by omega))) U (.no U) (hd_sup hs U) (.cons (.tm (hs.slots _ _ U)) (readA_sup hs U) .nil)) ?_
             refine DrawC.step U U U (Loc.of U fun σ' hs => R_cat U (.no U) (hd_sup hs U) (.tm (hs.slots _ _ U)) (.tm (hs.slots _ _ U)) (fun _ => by simp only [ByteArray.size_append, bs_size]; omega)) ?_
             refine DrawC.step U U U (Loc.of U fun σ' hs => R_cat U (.no U) (hd_sup hs U) (.tm (hs.slots _ _ U)) (.const U) (fun _ => by simp only [ByteArray.size_append, bs_size]; omega)) ?_
             refine DrawC.step U U U (Loc.of U fun σ' hs => R_assign U (.no U) (hd_sup hs U) (.tm (hs.slots _ _ U))) ?_
             refine DrawC.fin U U ?_
             refine AWl.nil (AW.ret ?_)
             refine Res.v U U ?_
             (unfold tokS; rw [if_neg h5, if_neg h7, if_neg h9, if_neg h14, if_neg h16, if_neg h18, show (⟨#[123]⟩ : ByteArray) = bs [123] from rfl, show (⟨#[44]⟩ : ByteArray) = bs [44] from rfl, show (⟨#[125]⟩ : ByteArray) = bs [125] from rfl]; simp only [bs_append])
end Go.Proofs.YtbkhopfpejhnlaaGreat
