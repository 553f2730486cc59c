import Derived.Test.YtbkhopfpejhnlaaGreatDoorB135ta
import Derived.Test.YtbkhopfpejhnlaaGreatDoorB126ta
import Derived.Test.YtbkhopfpejhnlaaGreatDoorB102ta
import Derived.Test.YtbkhopfpejhnlaaGreatDoorDraw4ta
import Derived.Laws.BytesArg
set_option linter.unusedVariables false
set_option linter.unusedSimpArgs false
set_option maxHeartbeats 1000000
set_option maxRecDepth 100000
namespace Go.Q
open Go.RowKit Go.D
section
variable {P : Program} {ops : Array Oper} {o : Oper} {σ : St} {q : Bool}
theorem run_rowStr {w : World} {l : List Int} {v : Value} {G : List Nat} {t t' e : TypeId} (h : C false w (.sl 1 (byR l)) v G) (hu : P.underlying t = some (.slice e)) (he : P.underlying e = some (.int .u8)) (hu' : P.underlying t' = some .string) :
 (convert t t' v).run P w = .ok (.string (strOfNums l)) w ∧ ∃ a n m, v = .slice a n m := by
 obtain ⟨a, len, cap, rfl, h1, h2, h3⟩ := h.bytes
 refine ⟨?_, _, _, _, rfl⟩
 cases l with
 | nil =>
  simp only [List.length_nil] at h1
  subst h1
  cases a with
  | none => exact run_convert_bytes_nil w t e hu he 0 cap t' hu'
  | some p =>
   rw [run_convert_bytes_string w t t' e _ 0 cap hu he hu', run_bytesToString w p 0 cap [] (run_loadCells_list (P := P) w p [] (fun j u hj => by simp at hj))]
   rfl
 | cons x r =>
  obtain ⟨b, off, y, rfl, _, _, _⟩ := h3 0 (by simp at h1; omega)
  refine run_convert_bytes_arg w t e hu he b off len cap (x :: r) h1 (fun i hi => ?_) t' hu'
  obtain ⟨b2, off2, y2, e1, _, e2, e3⟩ := h3 i hi
  cases e1
  rw [e3]
  simp [List.getD, e2]
theorem R_rowStr {t t' e : TypeId} {x : Operand} {id : Nat} (l : List Int) (ho : o.op = .convert t t' x) (hg : Grd ops o σ q) (hd : o.dst.all (fun d => Nat.blt d σ.n) = true) (hx : Get σ q x (.one (.rf id))) (hs : look σ.res id = some (.row 1 (byR l)))
 (hu : P.underlying t = some (.slice e)) (he : P.underlying e = some (.int .u8)) (hu' : P.underlying t' = some .string) : Op1 P ops o σ (σ.put o.dst (q, .a (.one (.t (.v (.string (strOfNums l))))))) :=
 .val hg hd fun I w0 a w hr hq => by
  obtain ⟨hv, _⟩ : VE I w (.rf id) (a.eval x) := hx.va hr hq
  have hC : C true w (.sl 1 (byR l)) (I.hd id) (I.F id) := hr.res id _ hs
  have hb := run_rowStr (P := P) hC.read hu he hu'
  rw [← hv] at hb
  obtain ⟨hb, ad, n, m, e0⟩ := hb
  exact ⟨_, by simp [execOp, ho, hb], VS_v _⟩
theorem R_rowStr1 {t t' e : TypeId} {x : Operand} {id : Nat} {n : Int} (ho : o.op = .convert t t' x) (hg : Grd ops o σ q) (hd : o.dst.all (fun d => Nat.blt d σ.n) = true) (hx : Get σ q x (.one (.rf id))) (hs : look σ.res id = some (.row 1 [[.v (.int .u8 n)]]))
 (hu : P.underlying t = some (.slice e)) (he : P.underlying e = some (.int .u8)) (hu' : P.underlying t' = some .string) : Op1 P ops o σ (σ.put o.dst (q, .a (.one (.t (.v (.string (strOfNums [n]))))))) :=
 R_rowStr [n] ho hg hd hx hs hu he hu'
theorem R_xor {t t' : TypeId} {x y : Operand} {n m : Int} (ho : o.op = .binOp .xor t x y t') (hg : Grd ops o σ q) (hd : o.dst.all (fun d => Nat.blt d σ.n) = true) (hx : Get σ q x (.one (.t (.v (.int .i64 n))))) (hy : Get σ q y (.one (.t (.v (.int .i64 m))))) :
 Op1 P ops o σ (σ.put o.dst (q, .a (.one (.t (.v (.int .i64 (bits .xor .i64 n m))))))) :=
 R_bin ho hg hd hx hy guard_int (h := fun _ w => rfl)
end
theorem bget {s : ByteArray} {z : Int} (h : 0 ≤ z ∧ z < s.size) : s[z.toNat]? = some (s[z.toNat]?.getD 0) := by
 rw [getElem?_pos s z.toNat (by omega)]; rfl
theorem validG_of {vs : List Int} {es : List TEdge} (h1 : ∀ v ∈ vs, 0 ≤ v ∧ v ≤ 2) (h2 : 1 ≤ vs.length ∧ vs.length ≤ 5) (h3 : es.length ≤ 12) (h4 : ∀ e ∈ es, edgeOk e vs.length = true) (h5 : es.Pairwise (·.ID < ·.ID)) : validG ⟨vs, es⟩ = true := by
 unfold validG
 simp only [Bool.and_eq_true, List.all_eq_true]
 refine ⟨⟨fun v hv => by have := h1 v hv; unfold inB; simp; omega, fun k hk => ?_⟩, by unfold inB; simp; omega, by simpa using h3⟩
 have hk := List.mem_range.1 hk
 unfold edgeAt
 rw [List.getElem?_eq_getElem hk]
 simp only [Bool.and_eq_true, Bool.not_eq_true', Bool.and_eq_false_iff, decide_eq_false_iff_not]
 refine ⟨h4 _ (List.getElem_mem hk), ?_⟩
 by_cases h0 : 0 < k
 · right
   rw [List.getElem?_eq_getElem (by omega)]
   have := List.pairwise_iff_getElem.1 h5 (k - 1) k (by omega) hk (by omega)
   simp only [Option.getD_some]
   omega
 · exact .inl h0
theorem get_dE {l : List TEdge} {i : Nat} (h : i < l.length) : l[i]? = some (l[i]?.getD dE) := by rw [List.getElem?_eq_getElem h]; rfl
def esOk (n : Nat) (id : Int) (es : List TEdge) : Prop := (∀ e ∈ es, edgeOk e n = true ∧ e.ID ≤ id) ∧ es.Pairwise (·.ID < ·.ID)
theorem esOk_nil (n : Nat) : esOk n 0 [] := ⟨by simp, List.Pairwise.nil⟩
theorem esOk_more {n : Nat} {id : Int} {es : List TEdge} {e : TEdge} (h : esOk n id es) (h0 : 0 ≤ id) (h1 : id < e.ID) (h2 : e.ID ≤ 99) (h3 : 0 ≤ e.From ∧ e.From ≤ n - 1) (h4 : 0 ≤ e.To ∧ e.To ≤ n - 1) (h5 : 0 ≤ e.Label ∧ e.Label ≤ 2) : esOk n e.ID (es ++ [e]) := by
 refine ⟨fun x hx => ?_, ?_⟩
 · rcases List.mem_append.1 hx with hx | hx
   · have := h.1 x hx; exact ⟨this.1, by omega⟩
   · rw [List.mem_singleton.1 hx]
     refine ⟨?_, Int.le_refl _⟩
     unfold edgeOk inB; simp; omega
 · rw [List.pairwise_append]
   refine ⟨h.2, List.pairwise_singleton _ _, fun x hx y hy => ?_⟩
   rw [List.mem_singleton.1 hy]
   have := h.1 x hx; omega
end Go.Q
namespace Go.Proofs.YtbkhopfpejhnlaaGreatDoor
open Go.RowKit Go.Q Go.D
set_option maxRecDepth 100000 in
theorem specl3GraphV : FnD Tryz.prog 59 [] (fun g : TGraph => validG g = true) (fun g => .a (.agg (cGraph g))) := by
 refine FnD.walk Tryz.func59 U (by kernel_rfl) Tryz.ntmps59 U (fun g => rfl) fun w0 g => ?_
 refine AW.sr ?_
 refine AWl.add (R_alloc 2 U U U in83 U U U) U ?_
 refine AWl.nil (AW.sr ?_)
 refine AWl.p (R_build (ps := []) U U U in83 U U st83 .nil U) U ?_
 refine AWl.nilA (i := 7) 20001 1 0 U U U ?_
 refine AWl.nilA (i := 7) 20002 4 1 U U U ?_
 refine AWl.add (R_alloc 3 U U U in83 U U U) U ?_
 refine AWl.chgb (R_store_pb U U U (.tm U) (.tm U) U ty83 U U U (by kernel_rfl) U) ?_
 refine AWl.nil (AW.seq ?_)
 refine AW.sr ?_
 refine AWl.mv ?_
 refine AWl.absadd (R_list (xs := [.const (.int .i64 (2)), .const (.int .i64 (3)), .const (.int .i64 (4)), .const (.int .i64 (4)), .const (.int .i64 (5))]) 9 U U U (.cons (.const U) U U (.cons (.const U) U U (.cons (.const U) U U (.cons (.const U) U U (.cons (.const U) U U .nil))))) Tryz.underlying55 in3 U U U U) U ?_
 refine AWl.opE (R_calld 1000 (specl1PickInt [2, 3, 4, 4, 5] (by decide)) U U U (.tm U) U U (.cons (.tm U) U .nil) (fun _ => rfl) (fun _ => rfl)) ?_
 rintro _ ⟨z10, hz10, rfl⟩
 try dsimp only at hz10
 refine AWl.av ?_
 refine AWl.nil (AW.block ?_)
 refine AW.loop2 (fun (n : Int) (vs : List Int) => ((n ≤ 5 - vs.length ∧ vs.length ≤ 5) ∧ (0 < vs.length ∨ 0 < n) ∧ ∀ v ∈ vs, 0 ≤ v ∧ v ≤ 2) ∧ True) (fun (n : Int) (vs : List Int) => ⟨_, [(4, (true, .a (.one (.t (.v (.int .i64 n)))))), (0, _), (2, _), (3, _)], [(2, .box [.t (.v (.slice none 0 0)), .t (.v (.slice none 0 0))]), (3, .box [.rf 20001, .rf 20002]), (20001, .row 1 (vs.map cInt)), (20002, .row 4 []), (888888, .cur g)]⟩) (fun (n : Int) (vs : List Int) => n.toNat) (z10) ([]) ⟨by simp at hz10; simp; omega, Y⟩ (Le.sub0 U ⟨U, U, U, U, Y⟩ ⟨U, U, U, U, U, Y⟩) ?_
 rintro n vs ⟨hk, he⟩
 refine AW.seq ?_
 refine AW.sr ?_
 refine AWl.mv ?_
 refine AWl.p (R_gt U (.no U) U (.tm U) (.const U)) U ?_
 refine AWl.nil ?_
 refine AW.cond (.tm U) (fun h12 => ?_) (fun h12 => ?_)
 · skip
   try simp at h12
   refine AW.skip ?_
   refine AW.seq ?_
   refine AW.block ?_
   refine AW.le (σ' := ⟨_, [(0, _), (2, _), (3, _), (4, _), (11, _), (12, _)], [(2, _), (3, _), (20001, _), (20002, _), (888888, _)]⟩) (Le.sub0 U ⟨U, U, U, U, U, U, Y⟩ ⟨U, U, U, U, U, Y⟩) ?_
   apply AW.drawnH (N := 5) (k := 2) (Hs := [0, 1, 2]) (ms := [[], [3], [3, 4]]) (es := [(0, 3, 1), (1, 4, 2)]) (σ1 := _) (SM := ⟨_, [(0, _), (2, _), (3, _), (4, _), (11, _), (12, _), (15, _), (16, _), (17, _)], [(2, _), (3, _), (20001, _), (20002, _), (888888, _)]⟩)
   case hm => kernel_rfl
   case hB => kernel_rfl
   case hP => kernel_rfl
   case hL => kernel_rfl
   case hN => rfl
   case hpre =>
    apply PreOk.step (P := Tryz.prog) 0 rfl ((by exact R_fieldAddr_pp rfl (.no rfl) rfl (.tm rfl) fl83_0)) (by exact .pp) rfl rfl rfl
    apply PreOk.step (P := Tryz.prog) 1 rfl ((by exact R_load_pp rfl (.no rfl) rfl (.tm rfl) rfl ty55 rfl rfl)) (by exact HasV.load (x := .tmp 15) (.tm rfl) rfl ty55 rfl rfl) rfl rfl rfl
    apply PreOk.step (P := Tryz.prog) 2 rfl (R_move rfl (.no rfl) rfl (.tm rfl)) (by exact HasV.slot (t := 0) rfl) rfl rfl rfl
    exact PreOk.nil
   case hS => exact Sup.sub0 rfl ⟨rfl, rfl, rfl, rfl, rfl, rfl, rfl, rfl, rfl, Y⟩ ⟨rfl, rfl, rfl, rfl, rfl, Y⟩
   case hH =>
    refine ⟨⟨_, _, _, rfl, rfl, rfl, fun σ' hs => (by exact R_fieldAddr_pp rfl (.no rfl) (hd_sup hs rfl) (.tm (hs.slots _ _ rfl)) fl83_0)⟩, ?_⟩
    refine ⟨⟨_, _, _, rfl, rfl, rfl, fun σ' hs => (by exact R_load_pp rfl (.no rfl) (hd_sup hs rfl) (.tm (hs.slots _ _ rfl)) (hs.res _ _ rfl) ty55 rfl rfl)⟩, ?_⟩
    refine ⟨⟨_, _, _, rfl, rfl, rfl, fun σ' hs => R_move rfl (.no rfl) (hd_sup hs rfl) (.tm (hs.slots _ _ rfl))⟩, ?_⟩
    trivial
   apply Dh.drw0 (i := 3)
   case ha => rfl
   case ho => rfl
   case hE =>
    intro  hp
    obtain _ := hp
    exact R_calld 1800 (specl1Below _) rfl rfl rfl (.tm rfl) rfl rfl (.cons (.const rfl) rfl .nil) (fun _ => rfl) (fun _ => rfl)
   case hb => rfl
   case hL =>
    intro  z18 hp hy
    exact EndQ.eq (Le.sub0 (σ' := ⟨_, [(0, _), (2, _), (3, _), (4, _), (11, _), (12, _), (15, _), (16, _), (17, _), (18, _)], [(2, _), (3, _), (20001, _), (20002, _), (888888, _)]⟩) U ⟨U, U, U, U, U, U, U, U, U, U, Y⟩ ⟨U, U, U, U, U, Y⟩) U
   case hS => intros; exact Sup.sub0 rfl ⟨rfl, rfl, rfl, rfl, rfl, rfl, rfl, rfl, rfl, Y⟩ ⟨rfl, rfl, rfl, rfl, rfl, Y⟩
   apply Dh.new1 (i := 4)
   case ha | ho | hb => rfl
   case hE =>
    intro w9 z18 hp
    obtain ⟨_, hz18⟩ := hp
    refine AWl.absadd (R_list (xs := [.tmp 18]) 19 U U U (.cons (.tm U) U U .nil) Tryz.underlying55 in3 U U U U) U ?_
    refine AWl.nil ?_
    exact EndQ.eq (Le.sub0 (σ' := ⟨_, [(0, _), (2, _), (3, _), (4, _), (11, _), (12, _), (15, _), (16, _), (17, _), (19, _)], [(2, _), (3, _), (20001, _), (20002, _), (888888, _), (19, _)]⟩) U ⟨U, U, U, U, U, U, U, U, U, U, Y⟩ ⟨U, U, U, U, U, U, Y⟩) U
   case hS => intros; exact Sup.sub0 rfl ⟨rfl, rfl, rfl, rfl, rfl, rfl, rfl, rfl, rfl, Y⟩ ⟨rfl, rfl, rfl, rfl, rfl, Y⟩
   refine Dh.fin1 (k := 2) rfl ?_
   intro z18 hp
   obtain ⟨_, hz18⟩ := hp
   refine AWl.chgput (R_append U U U (.tm U) U (.tm U) (by exact .rf U) (by rfl) Tryz.underlying55 in3 U (by (simp [chunk]; omega)) (by (unfold maxLen; simp [chunk]; omega))) U ?_
   refine AWl.le (σ' := ⟨_, [(0, _), (2, _), (3, _), (4, _), (12, _), (20, _)], [(2, _), (3, _), (20001, _), (20002, _), (888888, _), (19, _)]⟩) (Le.sub0 U ⟨U, U, U, U, U, U, Y⟩ ⟨U, U, U, U, U, U, Y⟩) ?_
   refine AWl.p (by exact R_fieldAddr_pp U (.no U) U (.tm U) fl83_0) U ?_
   refine AWl.chgb (R_store_pb U U U (.tm U) (.tm U) U ty55 U U U (by kernel_rfl) U) ?_
   refine AWl.nil (AW.region ?_)
   refine AWl.mv ?_
   refine AWl.p (R_sub U (.no U) U (.tm U) (.const U) (fun _ => by omega)) U ?_
   refine AWl.av ?_
   refine AWl.nil ?_
   repeat (with_reducible refine BlockQ.nor ?_)
   refine Round2.next (n - 1) (vs ++ [z18]) ⟨by (try simp at h12); refine ⟨by simp; omega, by simp, fun v hv => ?_⟩; rcases List.mem_append.1 hv with hv | hv; exact hk.2.2 v hv; rw [List.mem_singleton.1 hv]; omega, Y⟩ (by (try simp at h12); omega) (Le.sub0 rfl ⟨rfl, rfl, rfl, rfl, Y⟩ ⟨(by rfl), (by rfl), (by (refine congrArg (fun r => some (R.row _ r)) ?_; simp [chunk, List.map_set, cInt, cBool, cIntS, cPair, cToken, cExpr, cEdge, cGraph, cStep, cWalk, cChange, cBatch, cHistory, cPositions, cAutomaton, cProductStep, cPathAtom, cConjunction, cView, cDelta, cRegistered, cRegistry])), (by rfl), (by rfl), Y⟩)
 · skip
   try simp at h12
   refine AW.exit ?_
   refine AW.sr ?_
   refine AWl.ac ?_
   refine AWl.nil (AW.seq ?_)
   refine AW.sr ?_
   refine AWl.mv ?_
   refine AWl.mv ?_
   refine AWl.absadd (R_list (xs := [.const (.int .i64 (4)), .const (.int .i64 (8)), .const (.int .i64 (11))]) 24 U U U (.cons (.const U) U U (.cons (.const U) U U (.cons (.const U) U U .nil))) Tryz.underlying55 in3 U U U U) U ?_
   refine AWl.opE (R_calld 2500 (specl1PickInt [4, 8, 11] (by decide)) U U U (.tm U) U U (.cons (.tm U) U .nil) (fun _ => rfl) (fun _ => rfl)) ?_
   rintro _ ⟨z25, hz25, rfl⟩
   try dsimp only at hz25
   refine AWl.opE (R_calld 2600 (specl1Below _) U U U (.tm U) U U (.cons (.tm U) U .nil) (fun _ => rfl) (fun _ => rfl)) ?_
   rintro _ ⟨z26, hz26, rfl⟩
   try dsimp only at hz26
   refine AWl.av ?_
   refine AWl.nil (AW.block ?_)
   refine AW.loop3 (fun (n2 : Int) (id : Int) (es : List TEdge) => ((n2 ≤ 11 - es.length ∧ es.length ≤ 11 ∧ 0 ≤ id ∧ id ≤ 3 * es.length) ∧ esOk vs.length id es) ∧ True) (fun (n2 : Int) (id : Int) (es : List TEdge) => ⟨_, [(6, (true, .a (.one (.t (.v (.int .i64 n2)))))), (5, (true, .a (.one (.t (.v (.int .i64 id)))))), (0, _), (2, _), (3, _)], [(2, .box [.t (.v (.slice none 0 0)), .t (.v (.slice none 0 0))]), (3, .box [.rf 20001, .rf 20002]), (20001, .row 1 (vs.map cInt)), (20002, .row 4 (es.map cEdge)), (888888, .cur g)]⟩) (fun (n2 : Int) (id : Int) (es : List TEdge) => n2.toNat) (z26) (0) ([]) ⟨by simp at hz25; exact ⟨by simp; omega, esOk_nil _⟩, Y⟩ (Le.sub0 U ⟨U, U, U, U, U, Y⟩ ⟨U, U, U, U, U, Y⟩) ?_
   rintro n2 id es ⟨hk2, he2⟩
   refine AW.seq ?_
   refine AW.sr ?_
   refine AWl.mv ?_
   refine AWl.p (R_gt U (.no U) U (.tm U) (.const U)) U ?_
   refine AWl.nil ?_
   refine AW.cond (.tm U) (fun h28 => ?_) (fun h28 => ?_)
   · skip
     try simp at h28
     refine AW.skip ?_
     refine AW.seq ?_
     refine AW.block ?_
     refine AW.sr ?_
     refine AWl.mv ?_
     refine AWl.p (R_add U (.no U) U (.tm U) (.const U) (fun _ => by omega)) U ?_
     refine AWl.mv ?_
     refine AWl.opE (R_calld 3400 (specl1Below _) U U U (.tm U) U U (.cons (.const U) U .nil) (fun _ => rfl) (fun _ => rfl)) ?_
     rintro _ ⟨z34, hz34, rfl⟩
     try dsimp only at hz34
     refine AWl.p (R_add U (.no U) U (.tm U) (.tm U) (fun _ => by omega)) U ?_
     refine AWl.av ?_
     refine AWl.nil ?_
     refine AW.le (σ' := ⟨_, [(0, _), (2, _), (3, _), (5, _), (6, _)], [(2, _), (3, _), (20001, _), (20002, _), (888888, _)]⟩) (Le.sub0 U ⟨U, U, U, U, U, Y⟩ ⟨U, U, U, U, U, Y⟩) ?_
     refine AW.le (σ' := ⟨_, [(0, _), (2, _), (3, _), (5, _), (6, _)], [(2, _), (3, _), (20001, _), (20002, _), (888888, _)]⟩) (Le.sub0 U ⟨U, U, U, U, U, Y⟩ ⟨U, U, U, U, U, Y⟩) ?_
     apply AW.drawnH (N := 18) (k := 8) (Hs := [0, 1, 2, 3, 4, 5, 6, 8, 9, 10, 11, 13]) (ms := [[], [7], [14], [7, 12], [7, 14], [7, 12, 14], [7, 12, 14, 15], [7, 12, 14, 15, 16], [7, 12, 14, 15, 16, 17]]) (es := [(0, 7, 1), (0, 14, 2), (1, 12, 3), (1, 14, 4), (2, 7, 4), (3, 14, 5), (4, 12, 5), (5, 15, 6), (6, 16, 7), (7, 17, 8)]) (σ1 := _) (SM := ⟨_, [(0, _), (2, _), (3, _), (5, _), (6, _), (36, _), (37, _), (38, _), (39, _), (40, _), (41, _), (42, _), (44, _), (45, _), (46, _), (47, _), (49, _)], [(2, _), (3, _), (20001, _), (20002, _), (888888, _)]⟩)
     case hm => kernel_rfl
     case hB => kernel_rfl
     case hP => kernel_rfl
     case hL => kernel_rfl
     case hN => rfl
     case hpre =>
      apply PreOk.step (P := Tryz.prog) 0 rfl ((by exact R_fieldAddr_pp rfl (.no rfl) rfl (.tm rfl) fl83_1)) (by exact .pp) rfl rfl rfl
      apply PreOk.step (P := Tryz.prog) 1 rfl ((by exact R_load_pp rfl (.no rfl) rfl (.tm rfl) rfl ty81 rfl rfl)) (by exact HasV.load (x := .tmp 36) (.tm rfl) rfl ty81 rfl rfl) rfl rfl rfl
      apply PreOk.step (P := Tryz.prog) 2 rfl (R_move rfl (.no rfl) rfl (.tm rfl)) (by exact HasV.slot (t := 5) rfl) rfl rfl rfl
      apply PreOk.step (P := Tryz.prog) 3 rfl (R_move rfl (.no rfl) rfl (.tm rfl)) (by exact HasV.slot (t := 0) rfl) rfl rfl rfl
      apply PreOk.step (P := Tryz.prog) 4 rfl ((by exact R_fieldAddr_pp rfl (.no rfl) rfl (.tm rfl) fl83_0)) (by exact .pp) rfl rfl rfl
      apply PreOk.step (P := Tryz.prog) 5 rfl ((by exact R_load_pp rfl (.no rfl) rfl (.tm rfl) rfl ty55 rfl rfl)) (by exact HasV.load (x := .tmp 40) (.tm rfl) rfl ty55 rfl rfl) rfl rfl rfl
      apply PreOk.step (P := Tryz.prog) 6 rfl ((by exact R_lenm rfl (.no rfl) rfl (.tm rfl) (by exact .rf rfl) Tryz.underlying55)) (by exact .val rfl) rfl rfl rfl
      apply PreOk.step (P := Tryz.prog) 8 rfl (R_move rfl (.no rfl) rfl (.tm rfl)) (by exact HasV.slot (t := 0) rfl) rfl rfl rfl
      apply PreOk.step (P := Tryz.prog) 9 rfl ((by exact R_fieldAddr_pp rfl (.no rfl) rfl (.tm rfl) fl83_0)) (by exact .pp) rfl rfl rfl
      apply PreOk.step (P := Tryz.prog) 10 rfl ((by exact R_load_pp rfl (.no rfl) rfl (.tm rfl) rfl ty55 rfl rfl)) (by exact HasV.load (x := .tmp 45) (.tm rfl) rfl ty55 rfl rfl) rfl rfl rfl
      apply PreOk.step (P := Tryz.prog) 11 rfl ((by exact R_lenm rfl (.no rfl) rfl (.tm rfl) (by exact .rf rfl) Tryz.underlying55)) (by exact .val rfl) rfl rfl rfl
      apply PreOk.step (P := Tryz.prog) 13 rfl (R_move rfl (.no rfl) rfl (.tm rfl)) (by exact HasV.slot (t := 0) rfl) rfl rfl rfl
      exact PreOk.nil
     case hS => exact Sup.sub0 rfl ⟨rfl, rfl, rfl, rfl, rfl, rfl, rfl, rfl, rfl, rfl, rfl, rfl, rfl, rfl, rfl, rfl, rfl, Y⟩ ⟨rfl, rfl, rfl, rfl, rfl, Y⟩
     case hH =>
      refine ⟨⟨_, _, _, rfl, rfl, rfl, fun σ' hs => (by exact R_fieldAddr_pp rfl (.no rfl) (hd_sup hs rfl) (.tm (hs.slots _ _ rfl)) fl83_1)⟩, ?_⟩
      refine ⟨⟨_, _, _, rfl, rfl, rfl, fun σ' hs => (by exact R_load_pp rfl (.no rfl) (hd_sup hs rfl) (.tm (hs.slots _ _ rfl)) (hs.res _ _ rfl) ty81 rfl rfl)⟩, ?_⟩
      refine ⟨⟨_, _, _, rfl, rfl, rfl, fun σ' hs => R_move rfl (.no rfl) (hd_sup hs rfl) (.tm (hs.slots _ _ rfl))⟩, ?_⟩
      refine ⟨⟨_, _, _, rfl, rfl, rfl, fun σ' hs => R_move rfl (.no rfl) (hd_sup hs rfl) (.tm (hs.slots _ _ rfl))⟩, ?_⟩
      refine ⟨⟨_, _, _, rfl, rfl, rfl, fun σ' hs => (by exact R_fieldAddr_pp rfl (.no rfl) (hd_sup hs rfl) (.tm (hs.slots _ _ rfl)) fl83_0)⟩, ?_⟩
      refine ⟨⟨_, _, _, rfl, rfl, rfl, fun σ' hs => (by exact R_load_pp rfl (.no rfl) (hd_sup hs rfl) (.tm (hs.slots _ _ rfl)) (hs.res _ _ rfl) ty55 rfl rfl)⟩, ?_⟩
      refine ⟨⟨_, _, _, rfl, rfl, rfl, fun σ' hs => (by exact R_lenm rfl (.no rfl) (hd_sup hs rfl) (.tm (hs.slots _ _ rfl)) (by exact .rf (hs.res _ _ rfl)) Tryz.underlying55)⟩, ?_⟩
      refine ⟨⟨_, _, _, rfl, rfl, rfl, fun σ' hs => R_move rfl (.no rfl) (hd_sup hs rfl) (.tm (hs.slots _ _ rfl))⟩, ?_⟩
      refine ⟨⟨_, _, _, rfl, rfl, rfl, fun σ' hs => (by exact R_fieldAddr_pp rfl (.no rfl) (hd_sup hs rfl) (.tm (hs.slots _ _ rfl)) fl83_0)⟩, ?_⟩
      refine ⟨⟨_, _, _, rfl, rfl, rfl, fun σ' hs => (by exact R_load_pp rfl (.no rfl) (hd_sup hs rfl) (.tm (hs.slots _ _ rfl)) (hs.res _ _ rfl) ty55 rfl rfl)⟩, ?_⟩
      refine ⟨⟨_, _, _, rfl, rfl, rfl, fun σ' hs => (by exact R_lenm rfl (.no rfl) (hd_sup hs rfl) (.tm (hs.slots _ _ rfl)) (by exact .rf (hs.res _ _ rfl)) Tryz.underlying55)⟩, ?_⟩
      refine ⟨⟨_, _, _, rfl, rfl, rfl, fun σ' hs => R_move rfl (.no rfl) (hd_sup hs rfl) (.tm (hs.slots _ _ rfl))⟩, ?_⟩
      trivial
     apply Dh.drw0 (i := 7)
     case ha => rfl
     case ho => rfl
     case hE =>
      intro  hp
      obtain _ := hp
      exact R_calld 4300 (specl1Below _) rfl rfl rfl (.tm rfl) rfl rfl (.cons (.tm rfl) rfl .nil) (fun _ => rfl) (fun _ => rfl)
     case hb => rfl
     case hL =>
      intro  z43 hp hy
      exact EndQ.eq (Le.sub0 (σ' := ⟨_, [(0, _), (2, _), (3, _), (5, _), (6, _), (36, _), (37, _), (38, _), (39, _), (40, _), (41, _), (42, _), (43, _), (44, _), (45, _), (46, _), (47, _), (49, _)], [(2, _), (3, _), (20001, _), (20002, _), (888888, _)]⟩) U ⟨U, U, U, U, U, U, U, U, U, U, U, U, U, U, U, U, U, U, Y⟩ ⟨U, U, U, U, U, Y⟩) U
     case hS => intros; exact Sup.sub0 rfl ⟨rfl, rfl, rfl, rfl, rfl, rfl, rfl, rfl, rfl, rfl, rfl, rfl, rfl, rfl, rfl, rfl, rfl, Y⟩ ⟨rfl, rfl, rfl, rfl, rfl, Y⟩
     apply Dh.new0 (i := 14)
     case ha | ho | hb => rfl
     case hE =>
      intro w9  hp
      obtain _ := hp
      refine AWl.absadd (R_list (xs := [.const (.int .i64 (0)), .const (.int .i64 (0)), .const (.int .i64 (1)), .const (.int .i64 (2))]) 50 U U U (.cons (.const U) U U (.cons (.const U) U U (.cons (.const U) U U (.cons (.const U) U U .nil)))) Tryz.underlying55 in3 U U U U) U ?_
      refine AWl.nil ?_
      exact EndQ.eq (Le.sub0 (σ' := ⟨_, [(0, _), (2, _), (3, _), (5, _), (6, _), (36, _), (37, _), (38, _), (39, _), (40, _), (41, _), (42, _), (44, _), (45, _), (46, _), (47, _), (49, _), (50, _)], [(2, _), (3, _), (20001, _), (20002, _), (888888, _), (50, _)]⟩) U ⟨U, U, U, U, U, U, U, U, U, U, U, U, U, U, U, U, U, U, Y⟩ ⟨U, U, U, U, U, U, Y⟩) U
     case hS => intros; exact Sup.sub0 rfl ⟨rfl, rfl, rfl, rfl, rfl, rfl, rfl, rfl, rfl, rfl, rfl, rfl, rfl, rfl, rfl, rfl, rfl, Y⟩ ⟨rfl, rfl, rfl, rfl, rfl, Y⟩
     apply Dh.drw1 (i := 12)
     case ha => rfl
     case ho => rfl
     case hE =>
      intro z43 hp
      obtain ⟨_, hz43⟩ := hp
      exact R_calld 4800 (specl1Below _) rfl rfl rfl (.tm rfl) rfl rfl (.cons (.tm rfl) rfl .nil) (fun _ => rfl) (fun _ => rfl)
     case hb => rfl
     case hL =>
      intro z43 z48 hp hy
      exact EndQ.eq (Le.sub0 (σ' := ⟨_, [(0, _), (2, _), (3, _), (5, _), (6, _), (36, _), (37, _), (38, _), (39, _), (40, _), (41, _), (42, _), (43, _), (44, _), (45, _), (46, _), (47, _), (48, _), (49, _)], [(2, _), (3, _), (20001, _), (20002, _), (888888, _)]⟩) U ⟨U, U, U, U, U, U, U, U, U, U, U, U, U, U, U, U, U, U, U, Y⟩ ⟨U, U, U, U, U, Y⟩) U
     case hS => intros; exact Sup.sub0 rfl ⟨rfl, rfl, rfl, rfl, rfl, rfl, rfl, rfl, rfl, rfl, rfl, rfl, rfl, rfl, rfl, rfl, rfl, Y⟩ ⟨rfl, rfl, rfl, rfl, rfl, Y⟩
     apply Dh.new1 (i := 14)
     case ha | ho | hb => rfl
     case hE =>
      intro w9 z43 hp
      obtain ⟨_, hz43⟩ := hp
      refine AWl.absadd (R_list (xs := [.const (.int .i64 (0)), .const (.int .i64 (0)), .const (.int .i64 (1)), .const (.int .i64 (2))]) 50 U U U (.cons (.const U) U U (.cons (.const U) U U (.cons (.const U) U U (.cons (.const U) U U .nil)))) Tryz.underlying55 in3 U U U U) U ?_
      refine AWl.nil ?_
      exact EndQ.eq (Le.sub0 (σ' := ⟨_, [(0, _), (2, _), (3, _), (5, _), (6, _), (36, _), (37, _), (38, _), (39, _), (40, _), (41, _), (42, _), (43, _), (44, _), (45, _), (46, _), (47, _), (49, _), (50, _)], [(2, _), (3, _), (20001, _), (20002, _), (888888, _), (50, _)]⟩) U ⟨U, U, U, U, U, U, U, U, U, U, U, U, U, U, U, U, U, U, U, Y⟩ ⟨U, U, U, U, U, U, Y⟩) U
     case hS => intros; exact Sup.sub0 rfl ⟨rfl, rfl, rfl, rfl, rfl, rfl, rfl, rfl, rfl, rfl, rfl, rfl, rfl, rfl, rfl, rfl, rfl, Y⟩ ⟨rfl, rfl, rfl, rfl, rfl, Y⟩
     apply Dh.odr0 (i := 7)
     case ha => rfl
     case ho => rfl
     case hE =>
      intro  hp
      obtain _ := hp
      exact R_calld 4300 (specl1Below _) rfl rfl rfl (.tm rfl) rfl rfl (.cons (.tm rfl) rfl .nil) (fun _ => rfl) (fun _ => rfl)
     case hb => rfl
     case hL =>
      intro  z43 hp hy
      exact Le.sub0 U ⟨U, U, U, U, U, U, U, U, U, U, U, U, U, U, U, U, U, U, U, Y⟩ ⟨U, U, U, U, U, U, Y⟩
     apply Dh.new2 (i := 14)
     case ha | ho | hb => rfl
     case hE =>
      intro w9 z43 z48 hp
      obtain ⟨⟨_, hz43⟩, hz48⟩ := hp
      refine AWl.absadd (R_list (xs := [.const (.int .i64 (0)), .const (.int .i64 (0)), .const (.int .i64 (1)), .const (.int .i64 (2))]) 50 U U U (.cons (.const U) U U (.cons (.const U) U U (.cons (.const U) U U (.cons (.const U) U U .nil)))) Tryz.underlying55 in3 U U U U) U ?_
      refine AWl.nil ?_
      exact EndQ.eq (Le.sub0 (σ' := ⟨_, [(0, _), (2, _), (3, _), (5, _), (6, _), (36, _), (37, _), (38, _), (39, _), (40, _), (41, _), (42, _), (43, _), (44, _), (45, _), (46, _), (47, _), (48, _), (49, _), (50, _)], [(2, _), (3, _), (20001, _), (20002, _), (888888, _), (50, _)]⟩) U ⟨U, U, U, U, U, U, U, U, U, U, U, U, U, U, U, U, U, U, U, U, Y⟩ ⟨U, U, U, U, U, U, Y⟩) U
     case hS => intros; exact Sup.sub0 rfl ⟨rfl, rfl, rfl, rfl, rfl, rfl, rfl, rfl, rfl, rfl, rfl, rfl, rfl, rfl, rfl, rfl, rfl, Y⟩ ⟨rfl, rfl, rfl, rfl, rfl, Y⟩
     apply Dh.odr1 (i := 12)
     case ha => rfl
     case ho => rfl
     case hE =>
      intro z43 hp
      obtain ⟨_, hz43⟩ := hp
      exact R_calld 4800 (specl1Below _) rfl rfl rfl (.tm rfl) rfl rfl (.cons (.tm rfl) rfl .nil) (fun _ => rfl) (fun _ => rfl)
     case hb => rfl
     case hL =>
      intro z43 z48 hp hy
      exact Le.sub0 U ⟨U, U, U, U, U, U, U, U, U, U, U, U, U, U, U, U, U, U, U, U, Y⟩ ⟨U, U, U, U, U, U, Y⟩
     apply Dh.drw2 (i := 15)
     case ha => rfl
     case ho => rfl
     case hE =>
      intro z43 z48 hp
      obtain ⟨⟨_, hz43⟩, hz48⟩ := hp
      exact R_calld 5100 (specl1PickInt [0, 0, 1, 2] (by decide)) rfl rfl rfl (.tm rfl) rfl rfl (.cons (.tm rfl) rfl .nil) (fun _ => rfl) (fun _ => rfl)
     case hb => rfl
     case hL =>
      intro z43 z48 z51 hp hy
      exact EndQ.eq (Le.sub0 (σ' := ⟨_, [(0, _), (2, _), (3, _), (5, _), (6, _), (36, _), (37, _), (38, _), (39, _), (40, _), (41, _), (42, _), (43, _), (44, _), (45, _), (46, _), (47, _), (48, _), (49, _), (51, _)], [(2, _), (3, _), (20001, _), (20002, _), (888888, _), (50, _)]⟩) U ⟨U, U, U, U, U, U, U, U, U, U, U, U, U, U, U, U, U, U, U, U, Y⟩ ⟨U, U, U, U, U, U, Y⟩) U
     case hS => intros; exact Sup.sub0 rfl ⟨rfl, rfl, rfl, rfl, rfl, rfl, rfl, rfl, rfl, rfl, rfl, rfl, rfl, rfl, rfl, rfl, rfl, Y⟩ ⟨rfl, rfl, rfl, rfl, rfl, Y⟩
     apply Dh.new3 (i := 16)
     case ha | ho | hb => rfl
     case hE =>
      intro w9 z43 z48 z51 hp
      obtain ⟨⟨⟨_, hz43⟩, hz48⟩, hz51⟩ := hp
      refine AWl.p (R_build (ps := [(0, .tmp 38), (1, .tmp 43), (2, .tmp 48), (3, .tmp 51)]) U U U in95 U U st95 (.cons (.tm U) U U fp95_0 (.cons (.tm U) U U fp95_1 (.cons (.tm U) U U fp95_2 (.cons (.tm U) U U fp95_3 .nil)))) U) U ?_
      refine AWl.nil ?_
      exact EndQ.eq (Le.sub0 (σ' := ⟨_, [(0, _), (2, _), (3, _), (5, _), (6, _), (36, _), (37, _), (38, _), (39, _), (40, _), (41, _), (42, _), (44, _), (45, _), (46, _), (47, _), (49, _), (52, _)], [(2, _), (3, _), (20001, _), (20002, _), (888888, _), (50, _)]⟩) U ⟨U, U, U, U, U, U, U, U, U, U, U, U, U, U, U, U, U, U, Y⟩ ⟨U, U, U, U, U, U, Y⟩) U
     case hS => intros; exact Sup.sub0 rfl ⟨rfl, rfl, rfl, rfl, rfl, rfl, rfl, rfl, rfl, rfl, rfl, rfl, rfl, rfl, rfl, rfl, rfl, Y⟩ ⟨rfl, rfl, rfl, rfl, rfl, Y⟩
     apply Dh.new3 (i := 17)
     case ha | ho | hb => rfl
     case hE =>
      intro w9 z43 z48 z51 hp
      obtain ⟨⟨⟨_, hz43⟩, hz48⟩, hz51⟩ := hp
      refine AWl.absadd (R_list (xs := [.tmp 52]) 53 U U U (.cons (.tm U) U U .nil) Tryz.underlying81 in95 U U U U) U ?_
      refine AWl.nil ?_
      exact EndQ.eq (Le.sub0 (σ' := ⟨_, [(0, _), (2, _), (3, _), (5, _), (6, _), (36, _), (37, _), (38, _), (39, _), (40, _), (41, _), (42, _), (44, _), (45, _), (46, _), (47, _), (49, _), (53, _)], [(2, _), (3, _), (20001, _), (20002, _), (888888, _), (50, _), (53, _)]⟩) U ⟨U, U, U, U, U, U, U, U, U, U, U, U, U, U, U, U, U, U, Y⟩ ⟨U, U, U, U, U, U, U, Y⟩) U
     case hS => intros; exact Sup.sub0 rfl ⟨rfl, rfl, rfl, rfl, rfl, rfl, rfl, rfl, rfl, rfl, rfl, rfl, rfl, rfl, rfl, rfl, rfl, Y⟩ ⟨rfl, rfl, rfl, rfl, rfl, Y⟩
     refine Dh.fin3 (k := 8) rfl ?_
     intro z43 z48 z51 hp
     obtain ⟨⟨⟨_, hz43⟩, hz48⟩, hz51⟩ := hp
     refine AWl.chgput (R_append U U U (.tm U) U (.tm U) (by exact .rf U) (by rfl) Tryz.underlying81 in95 U (by (simp [chunk]; omega)) (by (unfold maxLen; simp [chunk]; omega))) U ?_
     refine AWl.le (σ' := ⟨_, [(0, _), (2, _), (3, _), (5, _), (6, _), (54, _)], [(2, _), (3, _), (20001, _), (20002, _), (888888, _), (50, _), (53, _)]⟩) (Le.sub0 U ⟨U, U, U, U, U, U, Y⟩ ⟨U, U, U, U, U, U, U, Y⟩) ?_
     refine AWl.p (by exact R_fieldAddr_pp U (.no U) U (.tm U) fl83_1) U ?_
     refine AWl.chgb (R_store_pb U U U (.tm U) (.tm U) U ty81 U U U (by kernel_rfl) U) ?_
     refine AWl.nil (AW.region ?_)
     refine AWl.mv ?_
     refine AWl.p (R_sub U (.no U) U (.tm U) (.const U) (fun _ => by omega)) U ?_
     refine AWl.av ?_
     refine AWl.nil ?_
     repeat (with_reducible refine BlockQ.nor ?_)
     refine Round3.next (n2 - 1) (id + 1 + z34) (es ++ [⟨id + 1 + z34, z43, z48, z51⟩]) ⟨by (try simp at h28); (try simp at hz51); exact ⟨by simp; omega, esOk_more hk2.2 (by omega) (by simp only; omega) (by simp only; omega) (by simp only; omega) (by simp only; omega) (by simp only; omega)⟩, Y⟩ (by (try simp at h28); omega) (Le.sub0 rfl ⟨rfl, rfl, rfl, rfl, rfl, Y⟩ ⟨(by rfl), (by rfl), (by rfl), (by (refine congrArg (fun r => some (R.row _ r)) ?_; simp [chunk, List.map_set, cInt, cBool, cIntS, cPair, cToken, cExpr, cEdge, cGraph, cStep, cWalk, cChange, cBatch, cHistory, cPositions, cAutomaton, cProductStep, cPathAtom, cConjunction, cView, cDelta, cRegistered, cRegistry])), (by rfl), Y⟩)
   · skip
     try simp at h28
     refine AW.exit ?_
     refine AW.sr ?_
     refine AWl.p (by exact R_load_pp U (.no U) U (.tm U) U ty83 U U) U ?_
     refine AWl.chgb (R_store_pb U U U (.tm U) (.tm U) U ty83 U U U (by kernel_rfl) U) ?_
     refine AWl.nil (AW.ret ?_)
     apply DRes.mk (x := ⟨vs, es⟩) rfl
     case h =>
      refine Res.one U (.cell U U ty83 U U .nil) U ?_
      rfl
     case hp => exact validG_of hk.2.2 (by (try simp at h12); omega) (by omega) (fun e he => (hk2.2.1 e he).1) hk2.2.2
set_option maxRecDepth 100000 in
theorem specl3Some (g : TGraph) : FnD Tryz.prog 88 [.agg (cGraph g)] (fun _ : TEdge => True) (fun e => .a (.agg (cEdge e))) := by
 refine FnD.walk Tryz.func88 U (by kernel_rfl) Tryz.ntmps88 U (fun g => rfl) fun w0 g => ?_
 refine AW.sr ?_
 refine AWl.p (R_boxz U U U (.tm U) (ts := _) (by rfl)) U ?_
 refine AWl.add (R_alloc 4 U U U in95 U U U) U ?_
 refine AWl.nil (AW.seq ?_)
 refine AW.drawnZ 19 888888 (nthB [[], [0], [0, 1], [], [], [4], [4, 5], [4, 5, 6], [0, 1, 3, 4, 5, 6, 7], [], [], [10], [10, 11], [10, 11, 12], [0, 1, 3, 4, 5, 6, 7, 8, 9, 10, 11, 12, 13], [], [0, 1, 3, 4, 5, 6, 7, 8, 9, 10, 11, 12, 13, 14, 15], [0, 1, 2, 3, 4, 5, 6, 7, 8, 9, 10, 11, 12, 13, 14, 15, 16], []]) (by kernel_rfl) (by kernel_rfl) (by kernel_rfl) U ?_
 refine DrawZ.pure U U U (fun ζ1 hp => by exact Loc.of U fun σ' hs => R_move U (.no U) (hd_sup hs U) (.tm (hs.slots _ _ U))) (fun _ => rfl) (fun _ _ _ => rfl) ?_
 refine DrawZ.draw U U U (fun ζ1 hp σ' hs hv => by exact R_calld 700 (specl1Below _) U U (hd_sup hs U) (.tm (hs.slots _ _ U)) (hs.res _ _ U) hv (.cons (.const U) (readDA_sup hs U) .nil) (fun _ => rfl) (fun _ => rfl)) (fun _ _ _ _ hq => hq) ?_
 refine DrawZ.pure U U U (fun ζ1 hp => by obtain ⟨⟨_, _⟩, hz7⟩ := hp; (try dsimp only at hz7); exact Loc.of U fun σ' hs => R_add U (.no U) (hd_sup hs U) (.const U) (.tm (hs.slots _ _ U)) (fun _ => by omega)) (fun _ => rfl) (by intro ζ ζ' h; first | rfl | (simp only [h 1 U])) ?_
 refine DrawZ.pure U U U (fun ζ1 hp => by exact Loc.of U fun σ' hs => R_move U (.no U) (hd_sup hs U) (.tm (hs.slots _ _ U))) (fun _ => rfl) (fun _ _ _ => rfl) ?_
 refine DrawZ.pure U U U (fun ζ1 hp => by exact Loc.of U fun σ' hs => (by exact R_fieldAddr U (.no U) (hd_sup hs U) (.tm (hs.slots _ _ U)) fl83_0)) (fun _ => rfl) (fun _ _ _ => rfl) ?_
 refine DrawZ.pure U U U (fun ζ1 hp => by exact Loc.of U fun σ' hs => (by exact R_load U (.no U) (hd_sup hs U) (.tm (hs.slots _ _ U)) ty55 U U)) (fun _ => rfl) (fun _ _ _ => rfl) ?_
 refine DrawZ.pure U U U (fun ζ1 hp => by exact Loc.of U fun σ' hs => (by exact R_lenm U (.no U) (hd_sup hs U) (.tm (hs.slots _ _ U)) (by exact .t) Tryz.underlying55)) (fun _ => rfl) (fun _ _ _ => rfl) ?_
 refine DrawZ.pure U U U (fun ζ1 hp => by exact Loc.of U fun σ' hs => R_max U (.no U) (hd_sup hs U) (.const U) (.tm (hs.slots _ _ U))) (fun _ => rfl) (fun _ _ _ => rfl) ?_
 refine DrawZ.draw U U U (fun ζ1 hp σ' hs hv => by obtain ⟨⟨⟨⟨⟨⟨⟨_, _⟩, hz7⟩, _⟩, _⟩, _⟩, _⟩, _⟩ := hp; (try dsimp only at hz7); exact R_calld 1400 (specl1Below _) U U (hd_sup hs U) (.tm (hs.slots _ _ U)) (hs.res _ _ U) hv (.cons (.tm (hs.slots _ _ U)) (readDA_sup hs U) .nil) (fun _ => rfl) (fun _ => rfl)) (by intro ζ ζ' h z hq; first | exact hq | (simp only [h 1 U] at hq ⊢; exact hq)) ?_
 refine DrawZ.pure U U U (fun ζ1 hp => by exact Loc.of U fun σ' hs => R_move U (.no U) (hd_sup hs U) (.tm (hs.slots _ _ U))) (fun _ => rfl) (fun _ _ _ => rfl) ?_
 refine DrawZ.pure U U U (fun ζ1 hp => by exact Loc.of U fun σ' hs => (by exact R_fieldAddr U (.no U) (hd_sup hs U) (.tm (hs.slots _ _ U)) fl83_0)) (fun _ => rfl) (fun _ _ _ => rfl) ?_
 refine DrawZ.pure U U U (fun ζ1 hp => by exact Loc.of U fun σ' hs => (by exact R_load U (.no U) (hd_sup hs U) (.tm (hs.slots _ _ U)) ty55 U U)) (fun _ => rfl) (fun _ _ _ => rfl) ?_
 refine DrawZ.pure U U U (fun ζ1 hp => by exact Loc.of U fun σ' hs => (by exact R_lenm U (.no U) (hd_sup hs U) (.tm (hs.slots _ _ U)) (by exact .t) Tryz.underlying55)) (fun _ => rfl) (fun _ _ _ => rfl) ?_
 refine DrawZ.pure U U U (fun ζ1 hp => by exact Loc.of U fun σ' hs => R_max U (.no U) (hd_sup hs U) (.const U) (.tm (hs.slots _ _ U))) (fun _ => rfl) (fun _ _ _ => rfl) ?_
 refine DrawZ.draw U U U (fun ζ1 hp σ' hs hv => by obtain ⟨⟨⟨⟨⟨⟨⟨⟨⟨⟨⟨⟨⟨_, _⟩, hz7⟩, _⟩, _⟩, _⟩, _⟩, _⟩, hz14⟩, _⟩, _⟩, _⟩, _⟩, _⟩ := hp; (try dsimp only at hz7); (try dsimp only at hz14); exact R_calld 2000 (specl1Below _) U U (hd_sup hs U) (.tm (hs.slots _ _ U)) (hs.res _ _ U) hv (.cons (.tm (hs.slots _ _ U)) (readDA_sup hs U) .nil) (fun _ => rfl) (fun _ => rfl)) (by intro ζ ζ' h z hq; first | exact hq | (simp only [h 1 U, h 8 U] at hq ⊢; exact hq)) ?_
 refine DrawZ.pure U U U (fun ζ1 hp => by exact Loc.of U fun σ' hs => R_move U (.no U) (hd_sup hs U) (.tm (hs.slots _ _ U))) (fun _ => rfl) (fun _ _ _ => rfl) ?_
 refine DrawZ.draw U U U (fun ζ1 hp σ' hs hv => by obtain ⟨⟨⟨⟨⟨⟨⟨⟨⟨⟨⟨⟨⟨⟨⟨_, _⟩, hz7⟩, _⟩, _⟩, _⟩, _⟩, _⟩, hz14⟩, _⟩, _⟩, _⟩, _⟩, _⟩, hz20⟩, _⟩ := hp; (try dsimp only at hz7); (try dsimp only at hz14); (try dsimp only at hz20); exact R_calld 2200 (specl1Below _) U U (hd_sup hs U) (.tm (hs.slots _ _ U)) (hs.res _ _ U) hv (.cons (.const U) (readDA_sup hs U) .nil) (fun _ => rfl) (fun _ => rfl)) (by intro ζ ζ' h z hq; first | exact hq | (simp only [h 1 U, h 8 U, h 14 U] at hq ⊢; exact hq)) ?_
 refine DrawZ.pure U U U (fun ζ1 hp => by obtain ⟨⟨⟨⟨⟨⟨⟨⟨⟨⟨⟨⟨⟨⟨⟨⟨⟨_, _⟩, hz7⟩, _⟩, _⟩, _⟩, _⟩, _⟩, _⟩, hz14⟩, _⟩, _⟩, _⟩, _⟩, _⟩, hz20⟩, _⟩, hz22⟩ := hp; (try dsimp only at hz7); (try dsimp only at hz14); (try dsimp only at hz20); (try dsimp only at hz22); exact Loc.of U fun σ' hs => R_build (ps := [(0, .tmp 8), (1, .tmp 14), (2, .tmp 20), (3, .tmp 22)]) U U (hd_sup hs U) in95 U U st95 (.cons (.tm (hs.slots _ _ U)) U U fp95_0 (.cons (.tm (hs.slots _ _ U)) U U fp95_1 (.cons (.tm (hs.slots _ _ U)) U U fp95_2 (.cons (.tm (hs.slots _ _ U)) U U fp95_3 .nil)))) U) (fun _ => rfl) (by intro ζ ζ' h; first | rfl | (simp only [h 1 U, h 8 U, h 14 U, h 16 U])) ?_
 refine DrawZ.pure U U U (fun ζ1 hp => by exact Loc.of1 U fun σ' hs hf => R_alloc 5 U U (hd_sup hs U) in95 U U hf) (fun _ => rfl) (fun _ _ _ => rfl) ?_
 refine DrawZ.fin U (fun _ => rfl) (fun _ => rfl) ?_
 intro ζ1 hp
 obtain ⟨⟨⟨⟨⟨⟨⟨⟨⟨⟨⟨⟨⟨⟨⟨⟨⟨⟨⟨_, _⟩, hz7⟩, _⟩, _⟩, _⟩, _⟩, _⟩, _⟩, hz14⟩, _⟩, _⟩, _⟩, _⟩, _⟩, hz20⟩, _⟩, hz22⟩, _⟩, _⟩ := hp
 try dsimp only at hz7
 try dsimp only at hz14
 try dsimp only at hz20
 try dsimp only at hz22
 dsimp only [finSl, finRs, addsR, List.map_cons, List.map_nil]
 refine AWl.le (σ' := ⟨_, [(0, _), (1, _), (3, _), (4, _), (5, _), (23, _)], [(888888, _), (4, _), (5, _)]⟩) (Le.sub0 U ⟨U, U, U, U, U, U, Y⟩ ⟨U, U, U, Y⟩) ?_
 refine AWl.chgb (R_store_pb U U U (.tm U) (.tm U) U ty95 U U U (by kernel_rfl) U) ?_
 refine AWl.nil (AW.seq ?_)
 refine AW.sr ?_
 refine AWl.mv ?_
 refine AWl.opE (R_calld 2500 (specl1Below _) U U U (.tm U) U U (.cons (.const U) U .nil) (fun _ => rfl) (fun _ => rfl)) ?_
 rintro _ ⟨z25, hz25, rfl⟩
 try dsimp only at hz25
 refine AWl.nil (AW.block ?_)
 refine AW.sr ?_
 refine AWl.p (R_eq U (.no U) U (.tm U) (.const U)) U ?_
 refine AWl.av ?_
 refine AWl.nil ?_
 refine AW.cond (.tm U) (fun h26 => ?_) (fun h26 => ?_)
 · skip
   try simp at h26
   refine AW.region ?_
   refine AWl.mv ?_
   refine AWl.absadd (R_list (xs := [.const (.int .i64 (0)), .const (.int .i64 (99)), .const (.int .i64 (100))]) 29 U U U (.cons (.const U) U U (.cons (.const U) U U (.cons (.const U) U U .nil))) Tryz.underlying55 in3 U U U U) U ?_
   refine AWl.opE (R_calld 3000 (specl1PickInt [0, 99, 100] (by decide)) U U U (.tm U) U U (.cons (.tm U) U .nil) (fun _ => rfl) (fun _ => rfl)) ?_
   rintro _ ⟨z30, hz30, rfl⟩
   try dsimp only at hz30
   refine AWl.p (by exact R_fieldAddr_pp U (.no U) U (.tm U) fl95_0) U ?_
   refine AWl.chgb (R_store_pb U U U (.tm U) (.tm U) U ty3 U U U (by kernel_rfl) U) ?_
   refine AWl.nil (AW.seq ?_)
   refine AW.le (σ' := ⟨_, [(0, _), (1, _), (3, _), (4, _), (5, _), (25, _)], [(888888, _), (4, _), (5, _), (29, _)]⟩) (Le.sub0 U ⟨U, U, U, U, U, U, Y⟩ ⟨U, U, U, U, Y⟩) ?_
   refine AW.region ?_
   refine AWl.p (by exact R_load_pp U (.no U) U (.tm U) U ty95 U U) U ?_
   refine AWl.chgb (R_store_pb U U U (.tm U) (.tm U) U ty95 U U U (by kernel_rfl) U) ?_
   refine AWl.nil (AW.ret ?_)
   apply DRes.mk (x := ⟨z30, (ζ1 8), (ζ1 14), (ζ1 16)⟩) rfl
   case h =>
    refine Res.one U (.cell U U ty95 U U .nil) U ?_
    rfl
   case hp => exact trivial
 · skip
   try simp at h26
   refine AW.sr ?_
   refine AWl.p (R_eq U (.no U) U (.tm U) (.const U)) U ?_
   refine AWl.av ?_
   refine AWl.nil ?_
   refine AW.cond (.tm U) (fun h32 => ?_) (fun h32 => ?_)
   · skip
     try simp at h32
     refine AW.le (σ' := ⟨_, [(0, _), (1, _), (3, _), (4, _), (5, _), (25, _)], [(888888, _), (4, _), (5, _)]⟩) (Le.sub0 U ⟨U, U, U, U, U, U, Y⟩ ⟨U, U, U, Y⟩) ?_
     refine AW.region ?_
     refine AWl.mv ?_
     refine AWl.absadd (R_list (xs := [.const (.int .i64 (-1)), .const (.int .i64 (5))]) 35 U U U (.cons (.const U) U U (.cons (.const U) U U .nil)) Tryz.underlying55 in3 U U U U) U ?_
     refine AWl.opE (R_calld 3600 (specl1PickInt [-1, 5] (by decide)) U U U (.tm U) U U (.cons (.tm U) U .nil) (fun _ => rfl) (fun _ => rfl)) ?_
     rintro _ ⟨z36, hz36, rfl⟩
     try dsimp only at hz36
     refine AWl.p (by exact R_fieldAddr_pp U (.no U) U (.tm U) fl95_2) U ?_
     refine AWl.chgb (R_store_pb U U U (.tm U) (.tm U) U ty3 U U U (by kernel_rfl) U) ?_
     refine AWl.nil (AW.sr ?_)
     refine AWl.p (by exact R_load_pp U (.no U) U (.tm U) U ty95 U U) U ?_
     refine AWl.chgb (R_store_pb U U U (.tm U) (.tm U) U ty95 U U U (by kernel_rfl) U) ?_
     refine AWl.nil (AW.ret ?_)
     apply DRes.mk (x := ⟨1 + (ζ1 1), (ζ1 8), z36, (ζ1 16)⟩) rfl
     case h =>
      refine Res.one U (.cell U U ty95 U U .nil) U ?_
      rfl
     case hp => exact trivial
   · skip
     try simp at h32
     refine AW.seq ?_
     refine AW.le (σ' := ⟨_, [(0, _), (1, _), (3, _), (4, _), (5, _), (25, _)], [(888888, _), (4, _), (5, _)]⟩) (Le.sub0 U ⟨U, U, U, U, U, U, Y⟩ ⟨U, U, U, Y⟩) ?_
     refine AW.region ?_
     refine AWl.p (R_eq U (.no U) U (.tm U) (.const U)) U ?_
     refine AWl.av ?_
     refine AWl.nil ?_
     refine AW.cond (.tm U) (fun h38 => ?_) (fun h38 => ?_)
     · skip
       try simp at h38
       refine AW.region ?_
       refine AWl.mv ?_
       refine AWl.absadd (R_list (xs := [.const (.int .i64 (-1)), .const (.int .i64 (3))]) 41 U U U (.cons (.const U) U U (.cons (.const U) U U .nil)) Tryz.underlying55 in3 U U U U) U ?_
       refine AWl.opE (R_calld 4200 (specl1PickInt [-1, 3] (by decide)) U U U (.tm U) U U (.cons (.tm U) U .nil) (fun _ => rfl) (fun _ => rfl)) ?_
       rintro _ ⟨z42, hz42, rfl⟩
       try dsimp only at hz42
       refine AWl.p (by exact R_fieldAddr_pp U (.no U) U (.tm U) fl95_3) U ?_
       refine AWl.chgb (R_store_pb U U U (.tm U) (.tm U) U ty3 U U U (by kernel_rfl) U) ?_
       refine AWl.nil (AW.seq ?_)
       refine AW.le (σ' := ⟨_, [(0, _), (1, _), (3, _), (4, _), (5, _), (25, _)], [(888888, _), (4, _), (5, _), (41, _)]⟩) (Le.sub0 U ⟨U, U, U, U, U, U, Y⟩ ⟨U, U, U, U, Y⟩) ?_
       refine AW.region ?_
       refine AWl.p (by exact R_load_pp U (.no U) U (.tm U) U ty95 U U) U ?_
       refine AWl.chgb (R_store_pb U U U (.tm U) (.tm U) U ty95 U U U (by kernel_rfl) U) ?_
       refine AWl.nil (AW.ret ?_)
       apply DRes.mk (x := ⟨1 + (ζ1 1), (ζ1 8), (ζ1 14), z42⟩) rfl
       case h =>
        refine Res.one U (.cell U U ty95 U U .nil) U ?_
        rfl
       case hp => exact trivial
     · skip
       try simp at h38
       refine AW.skip ?_
       refine AW.sr ?_
       refine AWl.p (by exact R_load_pp U (.no U) U (.tm U) U ty95 U U) U ?_
       refine AWl.chgb (R_store_pb U U U (.tm U) (.tm U) U ty95 U U U (by kernel_rfl) U) ?_
       refine AWl.nil (AW.ret ?_)
       apply DRes.mk (x := ⟨1 + (ζ1 1), (ζ1 8), (ζ1 14), (ζ1 16)⟩) rfl
       case h =>
        refine Res.one U (.cell U U ty95 U U .nil) U ?_
        rfl
       case hp => exact trivial
set_option maxRecDepth 100000 in
theorem specl1Text (m : Int) (hm : 0 ≤ m ∧ m ≤ 1000) : FnD Tryz.prog 96 [.one (.v (.int .i64 m))] (fun s : ByteArray => (s.size : Int) ≤ m) (fun s => .a (.one (.v (.string s)))) := by
 refine FnD.walk Tryz.func96 U (by kernel_rfl) Tryz.ntmps96 U (fun g => rfl) fun w0 g => ?_
 refine AW.sr ?_
 refine AWl.ac ?_
 refine AWl.nil (AW.sr ?_)
 refine AWl.add (R_empty 9 U U U Tryz.underlying22 ty5 U) U ?_
 refine AWl.av ?_
 refine AWl.nil (AW.sr ?_)
 refine AWl.mv ?_
 refine AWl.opE (R_calld 1100 (specl1Below _) U U U (.tm U) U U (.cons (.const U) U .nil) (fun _ => rfl) (fun _ => rfl)) ?_
 rintro _ ⟨z11, hz11, rfl⟩
 try dsimp only at hz11
 refine AWl.av ?_
 refine AWl.nil (AW.seq ?_)
 refine AW.sr ?_
 refine AWl.mv ?_
 refine AWl.mv ?_
 refine AWl.p (R_add U (.no U) U (.tm U) (.const U) (fun _ => by omega)) U ?_
 refine AWl.opE (R_calld 1500 (specl1Below _) U U U (.tm U) U U (.cons (.tm U) U .nil) (fun _ => rfl) (fun _ => rfl)) ?_
 rintro _ ⟨z15, hz15, rfl⟩
 try dsimp only at hz15
 refine AWl.av ?_
 refine AWl.nil (AW.block ?_)
 refine AW.loop2 (fun (n : Int) (l : List Int) => (n ≤ m - l.length ∧ (l.length : Int) ≤ m) ∧ True) (fun (n : Int) (l : List Int) => ⟨_, [(7, (true, .a (.one (.t (.v (.int .i64 n)))))), (6, (true, .a (.one (.t (.v (.int .i64 z11)))))), (5, (true, .a (.one (.rf 9)))), (0, _), (4, _)], [(9, .row 1 (byR l)), (888888, .cur g)]⟩) (fun (n : Int) (l : List Int) => n.toNat) (z15) ([]) ⟨by simp; omega, Y⟩ (Le.sub0 U ⟨U, U, U, U, U, Y⟩ ⟨U, U, Y⟩) ?_
 rintro n l ⟨hk, he⟩
 refine AW.seq ?_
 refine AW.sr ?_
 refine AWl.mv ?_
 refine AWl.p (R_gt U (.no U) U (.tm U) (.const U)) U ?_
 refine AWl.nil ?_
 refine AW.cond (.tm U) (fun h17 => ?_) (fun h17 => ?_)
 · skip
   try simp at h17
   have hbl : (byR l).length = l.length := by simp [byR]
   refine AW.skip ?_
   refine AW.seq ?_
   refine AW.block ?_
   refine AW.sr ?_
   refine AWl.mv ?_
   refine AWl.opE (R_calld 2100 (specl1Byte) U U U (.tm U) U U .nil (fun _ => rfl) (fun _ => rfl)) ?_
   rintro _ ⟨z21, hz21, rfl⟩
   try dsimp only at hz21
   refine AWl.av ?_
   refine AWl.nil (AW.seq ?_)
   refine AW.sr ?_
   refine AWl.mv ?_
   refine AWl.p (R_eq U (.no U) U (.tm U) (.const U)) U ?_
   refine AWl.nil ?_
   refine AW.cond (.tm U) (fun h23 => ?_) (fun h23 => ?_)
   · skip
     try simp at h23
     refine AW.le (σ' := ⟨_, [(0, _), (4, _), (5, _), (6, _), (7, _), (8, _)], [(9, _), (888888, _)]⟩) (Le.sub0 U ⟨U, U, U, U, U, U, Y⟩ ⟨U, U, Y⟩) ?_
     refine AW.region ?_
     refine AWl.mv ?_
     refine AWl.p (R_rem U (.no U) U (.tm U) (.const U) (fun _ => by omega)) U ?_
     refine AWl.av ?_
     refine AWl.nil (AW.seq ?_)
     refine AW.sr ?_
     refine AWl.mv ?_
     refine AWl.p (R_eq U (.no U) U (.tm U) (.const U)) U ?_
     refine AWl.nil ?_
     refine AW.cond (.tm U) (fun h27 => ?_) (fun h27 => ?_)
     · skip
       try simp at h27
       refine AW.region ?_
       refine AWl.mv ?_
       refine AWl.p (R_rem U (.no U) U (.tm U) (.const U) (fun _ => by omega)) U ?_
       refine AWl.p (R_add U (.no U) U (.const U) (.tm U) (fun _ => by omega)) U ?_
       refine AWl.av ?_
       refine AWl.nil ?_
       refine AW.le (σ' := ⟨_, [(0, _), (4, _), (5, _), (6, _), (7, _), (8, _)], [(9, _), (888888, _)]⟩) (Le.sub0 U ⟨U, U, U, U, U, U, Y⟩ ⟨U, U, Y⟩) ?_
       refine AW.region ?_
       refine AWl.mv ?_
       refine AWl.mv ?_
       refine AWl.p (R_conv U (.no U) U (.tm U) (by rw [Tryz.underlying3]; rfl) Tryz.underlying5 (fun _ => rfl)) U ?_
       refine AWl.absadd (R_list (xs := [.tmp 33]) 34 U U U (.cons (.tm U) U U .nil) Tryz.underlying22 in5 U U U U) U ?_
       refine AWl.chgput (R_append U U U (.tm U) U (.tm U) (by exact .rf U) (by rfl) Tryz.underlying22 in5 U (by omega) (by omega)) U ?_
       refine AWl.le (σ' := ⟨_, [(0, _), (4, _), (5, _), (6, _), (7, _), (8, _), (35, _)], [(9, _), (888888, _), (34, _)]⟩) (Le.sub0 U ⟨U, U, U, U, U, U, U, Y⟩ ⟨U, U, U, Y⟩) ?_
       refine AWl.av ?_
       refine AWl.nil (AW.region ?_)
       refine AWl.mv ?_
       refine AWl.p (R_sub U (.no U) U (.tm U) (.const U) (fun _ => by omega)) U ?_
       refine AWl.av ?_
       refine AWl.nil ?_
       repeat (with_reducible refine BlockQ.nor ?_)
       refine Round2.next (n - 1) (l ++ [IntKind.wrap .u8 (97 + z21 % 2 % 4)]) ⟨by (try simp at h17); simp; omega, Y⟩ (by (try simp at h17); omega) (Le.sub0 rfl ⟨rfl, rfl, rfl, rfl, rfl, Y⟩ ⟨(by refine congrArg (fun r => some (R.row 1 r)) ?_; simp [byR]; rfl), (by rfl), Y⟩)
     · skip
       try simp at h27
       refine AW.skip ?_
       refine AW.region ?_
       refine AWl.mv ?_
       refine AWl.mv ?_
       refine AWl.p (R_conv U (.no U) U (.tm U) (by rw [Tryz.underlying3]; rfl) Tryz.underlying5 (fun _ => rfl)) U ?_
       refine AWl.absadd (R_list (xs := [.tmp 33]) 34 U U U (.cons (.tm U) U U .nil) Tryz.underlying22 in5 U U U U) U ?_
       refine AWl.chgput (R_append U U U (.tm U) U (.tm U) (by exact .rf U) (by rfl) Tryz.underlying22 in5 U (by (simp [chunk]; omega)) (by (unfold maxLen; simp [chunk]; omega))) U ?_
       refine AWl.le (σ' := ⟨_, [(0, _), (4, _), (5, _), (6, _), (7, _), (8, _), (27, _), (35, _)], [(9, _), (888888, _), (34, _)]⟩) (Le.sub0 U ⟨U, U, U, U, U, U, U, U, Y⟩ ⟨U, U, U, Y⟩) ?_
       refine AWl.av ?_
       refine AWl.nil (AW.region ?_)
       refine AWl.mv ?_
       refine AWl.p (R_sub U (.no U) U (.tm U) (.const U) (fun _ => by omega)) U ?_
       refine AWl.av ?_
       refine AWl.nil ?_
       repeat (with_reducible refine BlockQ.nor ?_)
       refine Round2.next (n - 1) (l ++ [IntKind.wrap .u8 (z21 % 2)]) ⟨by (try simp at h17); simp; omega, Y⟩ (by (try simp at h17); omega) (Le.sub0 rfl ⟨rfl, rfl, rfl, rfl, rfl, Y⟩ ⟨(by refine congrArg (fun r => some (R.row 1 r)) ?_; simp [byR]; rfl), (by rfl), Y⟩)
   · skip
     try simp at h23
     refine AW.skip ?_
     refine AW.seq ?_
     refine AW.seq ?_
     refine AW.le (σ' := ⟨_, [(0, _), (4, _), (5, _), (6, _), (7, _), (8, _)], [(9, _), (888888, _)]⟩) (Le.sub0 U ⟨U, U, U, U, U, U, Y⟩ ⟨U, U, Y⟩) ?_
     refine AW.region ?_
     refine AWl.mv ?_
     refine AWl.p (R_eq U (.no U) U (.tm U) (.const U)) U ?_
     refine AWl.nil ?_
     refine AW.cond (.tm U) (fun h27 => ?_) (fun h27 => ?_)
     · skip
       try simp at h27
       refine AW.region ?_
       refine AWl.mv ?_
       refine AWl.p (R_rem U (.no U) U (.tm U) (.const U) (fun _ => by omega)) U ?_
       refine AWl.p (R_add U (.no U) U (.const U) (.tm U) (fun _ => by omega)) U ?_
       refine AWl.av ?_
       refine AWl.nil (AW.region ?_)
       refine AWl.mv ?_
       refine AWl.mv ?_
       refine AWl.p (R_conv U (.no U) U (.tm U) (by rw [Tryz.underlying3]; rfl) Tryz.underlying5 (fun _ => rfl)) U ?_
       refine AWl.absadd (R_list (xs := [.tmp 33]) 34 U U U (.cons (.tm U) U U .nil) Tryz.underlying22 in5 U U U U) U ?_
       refine AWl.chgput (R_append U U U (.tm U) U (.tm U) (by exact .rf U) (by rfl) Tryz.underlying22 in5 U (by (simp [chunk]; omega)) (by (unfold maxLen; simp [chunk]; omega))) U ?_
       refine AWl.le (σ' := ⟨_, [(0, _), (4, _), (5, _), (6, _), (7, _), (8, _), (27, _), (35, _)], [(9, _), (888888, _), (34, _)]⟩) (Le.sub0 U ⟨U, U, U, U, U, U, U, U, Y⟩ ⟨U, U, U, Y⟩) ?_
       refine AWl.av ?_
       refine AWl.nil (AW.region ?_)
       refine AWl.mv ?_
       refine AWl.p (R_sub U (.no U) U (.tm U) (.const U) (fun _ => by omega)) U ?_
       refine AWl.av ?_
       refine AWl.nil ?_
       repeat (with_reducible refine BlockQ.nor ?_)
       refine Round2.next (n - 1) (l ++ [IntKind.wrap .u8 (97 + z21 % 4)]) ⟨by (try simp at h17); simp; omega, Y⟩ (by (try simp at h17); omega) (Le.sub0 rfl ⟨rfl, rfl, rfl, rfl, rfl, Y⟩ ⟨(by refine congrArg (fun r => some (R.row 1 r)) ?_; simp [byR]; rfl), (by rfl), Y⟩)
     · skip
       try simp at h27
       refine AW.skip ?_
       refine AW.region ?_
       refine AWl.mv ?_
       refine AWl.mv ?_
       refine AWl.p (R_conv U (.no U) U (.tm U) (by rw [Tryz.underlying3]; rfl) Tryz.underlying5 (fun _ => rfl)) U ?_
       refine AWl.absadd (R_list (xs := [.tmp 33]) 34 U U U (.cons (.tm U) U U .nil) Tryz.underlying22 in5 U U U U) U ?_
       refine AWl.chgput (R_append U U U (.tm U) U (.tm U) (by exact .rf U) (by rfl) Tryz.underlying22 in5 U (by (simp [chunk]; omega)) (by (unfold maxLen; simp [chunk]; omega))) U ?_
       refine AWl.le (σ' := ⟨_, [(0, _), (4, _), (5, _), (6, _), (7, _), (8, _), (27, _), (35, _)], [(9, _), (888888, _), (34, _)]⟩) (Le.sub0 U ⟨U, U, U, U, U, U, U, U, Y⟩ ⟨U, U, U, Y⟩) ?_
       refine AWl.av ?_
       refine AWl.nil (AW.region ?_)
       refine AWl.mv ?_
       refine AWl.p (R_sub U (.no U) U (.tm U) (.const U) (fun _ => by omega)) U ?_
       refine AWl.av ?_
       refine AWl.nil ?_
       repeat (with_reducible refine BlockQ.nor ?_)
       refine Round2.next (n - 1) (l ++ [IntKind.wrap .u8 z21]) ⟨by (try simp at h17); simp; omega, Y⟩ (by (try simp at h17); omega) (Le.sub0 rfl ⟨rfl, rfl, rfl, rfl, rfl, Y⟩ ⟨(by refine congrArg (fun r => some (R.row 1 r)) ?_; simp [byR]; rfl), (by rfl), Y⟩)
 · skip
   try simp at h17
   refine AW.exit ?_
   refine AW.sr ?_
   refine AWl.mv ?_
   refine AWl.p (R_rowStr (l) U (.no U) U (.tm U) U Tryz.underlying22 Tryz.underlying5 Tryz.underlying9) U ?_
   refine AWl.av ?_
   refine AWl.nil (AW.ret ?_)
   apply DRes.mk (x := strOfNums l) rfl
   case h =>
    refine Res.one U (.tmp U .nil) U ?_
    rfl
   case hp => exact by rw [strOfNums_size]; exact hk.2
end Go.Proofs.YtbkhopfpejhnlaaGreatDoor
