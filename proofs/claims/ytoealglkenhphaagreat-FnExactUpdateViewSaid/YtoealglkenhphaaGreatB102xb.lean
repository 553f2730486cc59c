import Derived.Test.YtoealglkenhphaaGreatB101xb
import Derived.Test.YtoealglkenhphaaGreatPlanxb
import Derived.Shelf.RegionOpenPlain
import Derived.Lib.Overlaps
import Derived.Lib.AppendZeros
import Derived.Lib.AppendZerosOnto
import Derived.Lib.SliceRun
import Derived.Laws.Externs
set_option linter.unusedVariables false
set_option linter.unusedSimpArgs false
set_option maxHeartbeats 1000000
set_option maxRecDepth 100000
namespace Go.Q
open Go.RowKit
section
variable {P : Program}
theorem run_copy_k {k : Nat} (w : World) (t ty e : TypeId) (hu : P.underlying t = some (.slice e)) (hk : ∀ w, (Go.sizeOf e).run P w = .ok k w) (g o dLen dCap : Nat) (a : Addr) (sLen sCap c : Nat) (cur : Array Value) (te : TypeId) (cs : List Value)
  (hc : Nat.min sLen dLen = c) (hg : w.heap[g]? = some (.cells cur te (0, 0))) (hl : cs.length = c * k) (hsrc : ∀ j v, cs[j]? = some v → w.cell? (a.add j) = some v) (hfit : o + cs.length ≤ cur.size) (h1 : ∀ v ∈ cs, v.oneCell' = true) :
  (Builtin.copy_ #[t, t] ty #[.slice (some ⟨g, o, none⟩) dLen dCap, .slice (some a) sLen sCap]).run P w = .ok (goInt c) (w.setRow g (cur.toList.take o ++ cs ++ cur.toList.drop (o + cs.length)).toArray) := by
 have hf := run_firstCells_some (P := P) w k c a sLen sCap cs hl hsrc
 have hst := run_storeCells_at P g o te cs 0 cur w hg (by simpa using hfit) h1
 simp only [Nat.add_zero] at hst
 simp [Builtin.copy_, run_underlying hu, hk, Builtin.lenOf, hc, hf, hst]
theorem wp_copy_q (w : World) {o : Oper} {a : Act} {K : Act → World → Prop} {Q : Exit → Act → World → Prop} (d s : Operand) (t t' : TypeId)
  (ho : o.op = .call { callee := .builtin .copy, args := #[d, s], argTypes := #[t, t'] }) (v u : Value) (hd : a.eval d = v) (hs : a.eval s = u) {v' : Value} {w' : World}
  (hr : (Builtin.copy_ #[t, t'] o.type #[v, u]).run P w = .ok v' w') (h : K (a.put o.dst v') w') : o.wp P a w K Q := by
 unfold Oper.wp execOp
 simp only [ho, resolve, invoke, builtin, Sem.run_bind, Sem.run_pure, Result.andThen_ok, List.map_toArray, List.map_cons, List.map_nil, hd, hs, hr]
 exact h
theorem wpList_copy_q (w : World) {ops : Array Oper} {rest : List Oper} {o : Oper} {a : Act} {Q : Exit → Act → World → Prop} (hgd : o.guard = none) (d s : Operand) (t t' : TypeId)
  (ho : o.op = .call { callee := .builtin .copy, args := #[d, s], argTypes := #[t, t'] }) (v u : Value) (hd : a.eval d = v) (hs : a.eval s = u) {v' : Value} {w' : World}
  (hr : (Builtin.copy_ #[t, t'] o.type #[v, u]).run P w = .ok v' w') (h : wpList P ops Q rest (a.put o.dst v') w') : wpList P ops Q (o :: rest) a w :=
 wpList_plain hgd fun _ hK => wp_copy_q w d s t t' ho v u hd hs hr (hK _ _ h)
theorem step_copy_q {ops : Array Oper} {o : Oper} {a : Act} {w : World} {K : Act → World → Prop} {Q : Exit → Act → World → Prop} {E : Prop}
  (hg : o.guard = none) (d x : Operand) (dT sT : TypeId) (hop : o.op = Op.call { callee := Callee.builtin Builtin.copy, args := #[d, x], argTypes := #[dT, sT] })
  (v u : Value) (hd : a.eval d = v) (hx : a.eval x = u) {v' : Value} {w' : World} (hr : (Builtin.copy_ #[dT, sT] o.type #[v, u]).run P w = .ok v' w') (hK : K (a.put o.dst v') w') :
  if Region.wanted o (yielded ops a.tmps) = true then Oper.wp P o a w K Q else E := by
 have hw : Region.wanted o (yielded ops a.tmps) = true := by simp [Region.wanted, hg]
 rw [if_pos hw]
 exact wp_copy_q w d x dT sT hop v u hd hx hr hK
theorem size_setRow (w : World) (g : Nat) (arr : Array Value) : (w.setRow g arr).heap.size = w.heap.size := by simp only [World.setRow, Array.size_modify]
theorem Chg.setRow (w : World) (g : Nat) (arr : Array Value) : Chg w (w.setRow g arr) [g] := ⟨rfl, rfl, rfl, by simp [World.setRow], fun b _ hb => setRow_other w g b arr (fun e => hb (by simp [e]))⟩
def Front (cs : List Value) (cur : Array Value) : Prop := ∀ (j : Nat) (v : Value), cs[j]? = some v → cur[j]? = some v
theorem Front.take {cs : List Value} {cur : Array Value} (h : Front cs cur) : cur.toList.take cs.length = cs := by
 apply List.ext_getElem?
 intro j
 by_cases hj : j < cs.length
 ·have := h j _ (List.getElem?_eq_getElem hj)
  rw [List.getElem?_take_of_lt hj, Array.getElem?_toList, this, List.getElem?_eq_getElem hj]
 ·rw [List.getElem?_eq_none (by simp; omega), List.getElem?_eq_none (by omega)]
end
end Go.Q
namespace Go.Proofs.YtoealglkenhphaaGreat
open Go.RowKit Go.Q Go.D
set_option maxHeartbeats 4000000 in
set_option maxRecDepth 100000 in
theorem insShift (g M n i vb Mv : Nat) (cur cur3 : Array Value) (te te3 : TypeId) (cs vs : List Value) (w : World) (hi : i < n) (hroom : n + 1 ≤ M) (hM : M ≤ maxLen) (hne : vb ≠ g) (hg : w.heap[g]? = some (.cells cur te (0, 0))) (hcur : cur.size = M * 4)
  (hv : w.heap[vb]? = some (.cells cur3 te3 (0, 0))) (hcl : cs.length = n * 4) (hvl : vs.length = 4) (hcs : Front cs cur) (hvs : Front vs cur3) (h1c : ∀ v ∈ cs, v.oneCell' = true) (h1v : ∀ v ∈ vs, v.oneCell' = true) :
  Calls Tryz.prog 108 #[.slice (some ⟨g, 0, none⟩) n M, .int .i64 i, .slice (some ⟨vb, 0, none⟩) 1 Mv] w fun e w' =>
   e = .returned (.slice (some ⟨g, 0, none⟩) (n + 1) M) ∧ ∃ arr, w'.heap[g]? = some (.cells arr te (0, 0)) ∧ arr.size = M * 4 ∧ Front (cs.take (i * 4) ++ vs ++ cs.drop (i * 4)) arr ∧ Chg w w' [g] := by
 have hov : ∀ lb cb, (callFunc 160 #[.slice (some ⟨vb, 0, none⟩) 1 Mv, .slice (some ⟨g, (i + 1) * 4, none⟩) lb cb]).run Tryz.prog w = .ok (.value (.bool false)) w := fun lb cb => by
  rw [run_callFunc_extern Tryz.func160 (by kernel_rfl) (by kernel_rfl) (by kernel_rfl) (e := Extern.SlicesOverlaps.overlaps #[41, 41] #[4]) (by kernel_rfl),
   Lib.run_overlaps_apart w 41 4 46 Tryz.underlying41 4 Tryz.sizeOf46 ⟨vb, 0, none⟩ ⟨g, (i + 1) * 4, none⟩ 1 Mv lb cb hne te3 te cur3.size cur.size (by simp [World.shape?, hv]) (by simp [World.shape?, hg]) (by rw [hcur]; omega) (by simp [World.frozen?, hv]) (by simp [World.frozen?, hv])]
  rfl
 have hdl : (cs.drop (i * 4)).length = (n - i) * 4 := by rw [List.length_drop, hcl, Nat.sub_mul]
 have hcell : ∀ (W : World), W.heap[g]? = some (.cells cur te (0, 0)) → ∀ (q j : Nat) (v : Value), cs[q + j]? = some v → W.cell? ((⟨g, q, none⟩ : Addr).add j) = some v := fun W hW q j v h => by
  rw [Addr.add_lit]
  simp only [World.cell?, hW]
  simpa using hcs _ _ h
 have hcp1 : ∀ (W : World), W.heap[g]? = some (.cells cur te (0, 0)) → ∀ ty dc sc, (Builtin.copy_ #[41, 41] ty #[.slice (some ⟨g, (i + 1) * 4, none⟩) (n - i) dc, .slice (some ⟨g, i * 4, none⟩) (n + 1 - i) sc]).run Tryz.prog W = .ok (goInt (n - i : Nat)) (W.setRow g (cur.toList.take ((i + 1) * 4) ++ cs.drop (i * 4) ++ cur.toList.drop ((i + 1) * 4 + (cs.drop (i * 4)).length)).toArray) := fun W hW ty dc sc =>
  run_copy_k W _ ty 46 Tryz.underlying41 Tryz.sizeOf46 g ((i + 1) * 4) (n - i) dc ⟨g, i * 4, none⟩ (n + 1 - i) sc (n - i) cur te (cs.drop (i * 4)) (by simp only [Nat.min_def]; split <;> omega) hW hdl
   (fun j v hj => hcell W hW _ j v (by rwa [List.getElem?_drop] at hj)) (by rw [hdl, hcur]; omega) (fun v hv => h1c v (List.mem_of_mem_drop hv))
 obtain ⟨arr1, ha1⟩ : ∃ arr1, arr1 = (cur.toList.take ((i + 1) * 4) ++ cs.drop (i * 4) ++ cur.toList.drop ((i + 1) * 4 + (cs.drop (i * 4)).length)).toArray := ⟨_, rfl⟩
 have hcull : cur.toList.length = M * 4 := by rw [← hcur]; rfl
 have hs1 : arr1.size = M * 4 := by rw [ha1]; simp [hdl]; omega
 have hcp2 : ∀ (W : World), W.heap[g]? = some (.cells arr1 te (0, 0)) → W.heap[vb]? = some (.cells cur3 te3 (0, 0)) → ∀ ty dc, (Builtin.copy_ #[41, 41] ty #[.slice (some ⟨g, i * 4, none⟩) (n + 1 - i) dc, .slice (some ⟨vb, 0, none⟩) 1 Mv]).run Tryz.prog W = .ok (goInt (1 : Nat)) (W.setRow g (arr1.toList.take (i * 4) ++ vs ++ arr1.toList.drop (i * 4 + vs.length)).toArray) := fun W hW hWv ty dc =>
  run_copy_k W _ ty 46 Tryz.underlying41 Tryz.sizeOf46 g (i * 4) (n + 1 - i) dc ⟨vb, 0, none⟩ 1 Mv 1 arr1 te vs (by simp only [Nat.min_def]; split <;> omega) hW (by rw [hvl])
   (fun j v hj => by rw [Addr.add_lit]; simp only [World.cell?, hWv]; simpa using hvs j v hj) (by rw [hvl, hs1]; omega) h1v
 rw [← ha1] at hcp1
 have hw1 : IntKind.i64.wrap ((i : Int) + 1) = (i : Int) + 1 := by rw [IntKind.wrap_i64]; unfold maxLen at hM; omega
 have hw2 : IntKind.i64.wrap ((n : Int) + 1) = (n : Int) + 1 := by rw [IntKind.wrap_i64]; unfold maxLen at hM; omega
 have hin : i ≤ n := by omega
 have hz2 : ¬ ((i : Int) = (n : Int)) := by omega
 have hz3 : ¬ ((M : Int) < (n : Int) + 1) := by omega
 have mixed : Tryz.prog.follows Departure.mixedOrders = true := by kernel_rfl
 have hb1 : (0 : Int) ≤ (i : Int) + 1 := by omega
 have hb3 : (i : Int) ≤ (n : Int) + 1 := by omega
 have hb4 : ¬ (M = i) := by omega
 have hb5 : ¬ (M = i + 1) := by omega
 obtain ⟨arr2, ha2⟩ : ∃ arr2, arr2 = (arr1.toList.take (i * 4) ++ vs ++ arr1.toList.drop (i * 4 + vs.length)).toArray := ⟨_, rfl⟩
 rw [← ha2] at hcp2
 have HA := hid ha1
 have HA2 := hid ha2
 clear ha1 ha2
 go_enter Tryz.func108, Tryz.ntmps108
 go_wp2_with (simp only [hov])
 go_region_law_o (refine step_copy_q rfl _ _ 41 41 rfl (.slice (some ⟨g, (i + 1) * 4, none⟩) (n - i) (M - (i + 1))) (.slice (some ⟨g, i * 4, none⟩) (n + 1 - i) (M - i)) (by simp [Act.eval, Act.put]) (by simp [Act.eval, Act.put]) (hcp1 w.drew hg 3 (M - (i + 1)) (M - i)) ?_)
 go_wp2_with (refine wpList_copy_q _ rfl _ _ 41 41 rfl _ _ rfl rfl (hcp2 (w.drew.setRow g arr1) (setRow_heap w.drew g cur arr1 te (0, 0) hg) ((setRow_other w.drew g vb arr1 hne).trans hv) _ _) ?_)
 go_ret
 have ha1 := HA.out
 have ha2 := HA2.out
 refine ⟨rfl, _, setRow_heap (w.drew.setRow g arr1) g arr1 _ te (0, 0) (setRow_heap w.drew g cur arr1 te (0, 0) hg), ?_, ?_, ?_⟩
 ·have : arr1.toList.length = M * 4 := by rw [← hs1]; rfl
  rw [ha2]; simp [hvl]; omega
 ·have ht1 : arr1.toList.take (i * 4) = cs.take (i * 4) := by
   rw [ha1]
   simp only [List.append_assoc]
   rw [List.take_append_of_le_length (by rw [List.length_take, hcull]; omega), List.take_take, show min (i * 4) ((i + 1) * 4) = i * 4 by omega]
   have := hcs.take
   rw [hcl] at this
   rw [← this, List.take_take, show min (i * 4) (n * 4) = i * 4 by omega]
  have hd1 : arr1.toList.drop (i * 4 + vs.length) = cs.drop (i * 4) ++ cur.toList.drop ((i + 1) * 4 + (cs.drop (i * 4)).length) := by
   rw [hvl, show i * 4 + 4 = (i + 1) * 4 by omega, ha1]
   simp only [List.append_assoc]
   rw [List.drop_append_of_le_length (by rw [List.length_take, hcull]; omega), List.drop_of_length_le (by rw [List.length_take]; omega), List.nil_append]
  rw [ht1, hd1] at ha2
  rw [ha2]
  intro j v hj
  have hlt := (List.getElem?_eq_some_iff.1 hj).1
  rw [← Array.getElem?_toList]
  simp only [← List.append_assoc]
  rw [List.getElem?_append_left hlt]; exact hj
 ·exact ⟨rfl, rfl, rfl, Nat.le_of_eq (by simp only [World.setRow, Array.size_modify]; rfl), fun b _ hb => (setRow_other (w.drew.setRow g arr1) g b _ (fun e => hb (by simp [e]))).trans (setRow_other w.drew g b arr1 (fun e => hb (by simp [e])))⟩
theorem insInfo : (Tryz.prog.info? 46).map (fun i => (i.zero, i.size, i.bytes)) = some (some (.agg #[.int .i64 0, .int .i64 0, .int .i64 0, .int .i64 0]), 4, 32) := by kernel_rfl
set_option maxHeartbeats 4000000 in
set_option maxRecDepth 100000 in
theorem insGrow (g M n i vb Mv : Nat) (cur cur3 : Array Value) (te te3 : TypeId) (cs vs : List Value) (w : World) (hi : i < n) (hnM : n ≤ M) (hroom : M < n + 1) (hn : n ≤ 1048576) (hg : w.heap[g]? = some (.cells cur te (0, 0))) (hcur : cur.size = M * 4)
  (hv : w.heap[vb]? = some (.cells cur3 te3 (0, 0))) (hcl : cs.length = n * 4) (hvl : vs.length = 4) (hcs : Front cs cur) (hvs : Front vs cur3) (h1c : ∀ v ∈ cs, v.oneCell' = true) (h1v : ∀ v ∈ vs, v.oneCell' = true) :
  Calls Tryz.prog 108 #[.slice (some ⟨g, 0, none⟩) n M, .int .i64 i, .slice (some ⟨vb, 0, none⟩) 1 Mv] w fun e w' =>
   ∃ G, e = .returned (.slice (some ⟨w.heap.size, 0, none⟩) (n + 1) G) ∧ n + 1 ≤ G ∧ G ≤ maxLen ∧ ∃ arr, w'.heap[w.heap.size]? = some (.cells arr 46 (0, 0)) ∧ arr.size = G * 4 ∧ Front (cs.take (i * 4) ++ vs ++ cs.drop (i * 4)) arr ∧ Ext w w' := by
 obtain ⟨i0, hi0, hz0, hzs, hzb⟩ := info_parts insInfo
 have hgw : g < w.heap.size := (Array.getElem?_eq_some_iff.1 hg).1
 have hvw : vb < w.heap.size := (Array.getElem?_eq_some_iff.1 hv).1
 have htl : (cs.take (i * 4)).length = i * 4 := by rw [List.length_take, hcl]; omega
 have hdl : (cs.drop (i * 4)).length = (n - i) * 4 := by rw [List.length_drop, hcl, Nat.sub_mul]
 have hold : (Builtin.firstCells i0.size i (.slice (some ⟨g, 0, none⟩) i M)).run Tryz.prog w.drew = .ok (cs.take (i * 4)).toArray w.drew := by
  rw [hzs]
  exact run_firstCells_some w.drew 4 i ⟨g, 0, none⟩ i M (cs.take (i * 4)) htl (fun j v hj => by
   rw [Addr.add_lit]
   have h1 : cs[j]? = some v := by
    rw [List.getElem?_take] at hj
    split at hj
    ·exact hj
    ·cases hj
   show (w.cell? _) = _
   simp only [World.cell?, hg]
   simpa using hcs _ _ h1)
 have hik : i + (n + 1 - i) = n + 1 := by omega
 have hrz : ∀ ty, (Builtin.append_ #[41, 3] ty #[.slice (some ⟨g, 0, none⟩) i M, .int .i64 ((n : Int) + 1 - (i : Int))]).run Tryz.prog w =
   .ok (.slice (some ⟨w.heap.size, 0, none⟩) (n + 1) (grownCap w (n + 1) M 46)) (w.drew.alloc (.cells ((cs.take (i * 4)).toArray ++ Builtin.zeroCells (Value.agg #[.int .i64 0, .int .i64 0, .int .i64 0, .int .i64 0]).cells (n + 1 - i) ++ Builtin.zeroCells (Value.agg #[.int .i64 0, .int .i64 0, .int .i64 0, .int .i64 0]).cells (grownCap w (n + 1) M 46 - (n + 1))) 46)) := fun ty => by
  have h := Lib.run_append_grow_zeros w 41 3 ty 46 i0 _ .i64 .i64 Tryz.underlying41 Tryz.underlying3 hi0 hz0 (some ⟨g, 0, none⟩) i M (cs.take (i * 4)) hold (n + 1 - i) (by omega) (by omega) (by omega) (by omega) (by rw [hzb]; omega) (by rw [hzb, hik]; exact growslice_fits hroom (by omega))
  rw [hik] at h
  rw [show (n : Int) + 1 - (i : Int) = ((n + 1 - i : Nat) : Int) by omega]
  exact h
 obtain ⟨G, hG⟩ : ∃ G, G = grownCap w (n + 1) M 46 := ⟨_, rfl⟩
 have hGn : n + 1 ≤ G := by rw [hG]; exact grownCap_ge w _ _ _
 have hGm : G ≤ maxLen := by rw [hG]; exact grownCap_le_maxLen w (n + 1) M 46 (by unfold maxLen; omega)
 rw [← hG] at hrz
 obtain ⟨ROW, hROW⟩ : ∃ ROW : Array Value, ROW = (cs.take (i * 4)).toArray ++ Builtin.zeroCells (Value.agg #[.int .i64 0, .int .i64 0, .int .i64 0, .int .i64 0]).cells (n + 1 - i) ++ Builtin.zeroCells (Value.agg #[.int .i64 0, .int .i64 0, .int .i64 0, .int .i64 0]).cells (G - (n + 1)) := ⟨_, rfl⟩
 rw [← hROW] at hrz
 have hzl : ∀ k, (Builtin.zeroCells (Value.agg #[.int .i64 0, .int .i64 0, .int .i64 0, .int .i64 0]).cells k).size = k * 4 := fun k => by simp [Builtin.zeroCells, Value.cells]
 have hRs : ROW.size = G * 4 := by rw [hROW]; simp only [Array.size_append, hzl, List.size_toArray, htl]; omega
 have hRt : ROW.toList.take (i * 4) = cs.take (i * 4) := by rw [hROW]; simp [htl]
 have hRl : ROW.toList.length = G * 4 := by rw [← hRs]; rfl
 have hNg : w.heap.size ≠ g := by omega
 have hNv : w.heap.size ≠ vb := by omega
 obtain ⟨arr1, ha1⟩ : ∃ arr1, arr1 = (ROW.toList.take (i * 4) ++ vs ++ ROW.toList.drop (i * 4 + vs.length)).toArray := ⟨_, rfl⟩
 have hs1 : arr1.size = G * 4 := by rw [ha1]; simp [hvl]; rw [hRs]; omega
 have hcp1 : ∀ (W : World), W.heap[w.heap.size]? = some (.cells ROW 46 (0, 0)) → W.heap[vb]? = some (.cells cur3 te3 (0, 0)) → ∀ ty dc, (Builtin.copy_ #[41, 41] ty #[.slice (some ⟨w.heap.size, i * 4, none⟩) (n + 1 - i) dc, .slice (some ⟨vb, 0, none⟩) 1 Mv]).run Tryz.prog W = .ok (goInt (1 : Nat)) (W.setRow w.heap.size arr1) := fun W hW hWv ty dc => by
  rw [ha1]
  exact run_copy_k W _ ty 46 Tryz.underlying41 Tryz.sizeOf46 w.heap.size (i * 4) (n + 1 - i) dc ⟨vb, 0, none⟩ 1 Mv 1 ROW 46 vs (by simp only [Nat.min_def]; split <;> omega) hW (by rw [hvl])
   (fun j v hj => by rw [Addr.add_lit]; simp only [World.cell?, hWv]; simpa using hvs j v hj) (by rw [hvl, hRs]; omega) h1v
 obtain ⟨arr2, ha2⟩ : ∃ arr2, arr2 = (arr1.toList.take ((i + 1) * 4) ++ cs.drop (i * 4) ++ arr1.toList.drop ((i + 1) * 4 + (cs.drop (i * 4)).length)).toArray := ⟨_, rfl⟩
 have hcp2 : ∀ (W : World), W.heap[w.heap.size]? = some (.cells arr1 46 (0, 0)) → W.heap[g]? = some (.cells cur te (0, 0)) → ∀ ty dc sc, (Builtin.copy_ #[41, 41] ty #[.slice (some ⟨w.heap.size, (i + 1) * 4, none⟩) (n - i) dc, .slice (some ⟨g, i * 4, none⟩) (n - i) sc]).run Tryz.prog W = .ok (goInt (n - i : Nat)) (W.setRow w.heap.size arr2) := fun W hW hWg ty dc sc => by
  rw [ha2]
  exact run_copy_k W _ ty 46 Tryz.underlying41 Tryz.sizeOf46 w.heap.size ((i + 1) * 4) (n - i) dc ⟨g, i * 4, none⟩ (n - i) sc (n - i) arr1 46 (cs.drop (i * 4)) (by simp only [Nat.min_def]; split <;> omega) hW hdl
   (fun j v hj => by
    rw [Addr.add_lit]
    simp only [World.cell?, hWg]
    rw [List.getElem?_drop] at hj
    simpa using hcs _ _ hj) (by rw [hdl, hs1]; omega) (fun v hv => h1c v (List.mem_of_mem_drop hv))
 have hHA := hid ha1
 have hHB := hid ha2
 have hHR := hid hRt
 clear ha1 ha2 hROW hRt hG hold hik hzl hRl
 have hw1 : IntKind.i64.wrap ((i : Int) + 1) = (i : Int) + 1 := by rw [IntKind.wrap_i64]; omega
 have hw2 : IntKind.i64.wrap ((n : Int) + 1) = (n : Int) + 1 := by rw [IntKind.wrap_i64]; omega
 have hw3 : IntKind.i64.wrap ((n : Int) + 1 - (i : Int)) = (n : Int) + 1 - (i : Int) := by rw [IntKind.wrap_i64]; omega
 have hin : i ≤ n := by omega
 have hz2 : ¬ ((i : Int) = (n : Int)) := by omega
 have hz3 : (M : Int) < (n : Int) + 1 := by omega
 have mixed : Tryz.prog.follows Departure.mixedOrders = true := by kernel_rfl
 have hb1 : (0 : Int) ≤ (i : Int) + 1 := by omega
 have hb3 : (i : Int) ≤ (n : Int) + 1 := by omega
 have hb7 : (i : Int) ≤ (n : Int) := by omega
 have hb4 : ¬ (M = i) := by omega
 have hb5 : ¬ (G = i + 1) := by omega
 have hb6 : ¬ (G = i) := by omega
 go_enter Tryz.func108, Tryz.ntmps108
 go_wp2_with (first
  | (at_builtin; refine Lib.wpList_append_run _ rfl _ _ _ _ rfl _ _ rfl rfl _ _ (hrz _) ?_)
  | (refine wpList_copy_q _ rfl _ _ 41 41 rfl _ _ rfl rfl (hcp1 _ (by show (w.heap.push _)[w.heap.size]? = _; simp) (by show (w.heap.push _)[vb]? = _; rw [Array.getElem?_push, if_neg (Ne.symm hNv)]; exact hv) _ _) ?_))
 have hA1 : (w.alloc (.cells ROW 46)).heap[w.heap.size]? = some (.cells ROW 46 (0, 0)) := by show (w.heap.push _)[w.heap.size]? = _; simp
 have hA2 : ∀ b, b < w.heap.size → (w.alloc (.cells ROW 46)).heap[b]? = w.heap[b]? := fun b hb => by show (w.heap.push _)[b]? = _; rw [Array.getElem?_push, if_neg (by omega)]
 have hB1 : ((w.alloc (.cells ROW 46)).drew.setRow w.heap.size arr1).heap[w.heap.size]? = some (.cells arr1 46 (0, 0)) := setRow_heap (w.alloc (.cells ROW 46)).drew w.heap.size ROW arr1 _ (0, 0) hA1
 have hB2 : ∀ b, b < w.heap.size → ((w.alloc (.cells ROW 46)).drew.setRow w.heap.size arr1).heap[b]? = w.heap[b]? := fun b hb => (setRow_other (w.alloc (.cells ROW 46)).drew w.heap.size b arr1 (by omega)).trans (hA2 b hb)
 go_region_law_o (refine step_copy_q rfl _ _ 41 41 rfl (.slice (some ⟨w.heap.size, (i + 1) * 4, none⟩) (n - i) (G - (i + 1))) (.slice (some ⟨g, i * 4, none⟩) (n - i) (M - i)) (by simp [Act.eval, Act.put]) (by simp [Act.eval, Act.put]) (hcp2 ((w.alloc (.cells ROW 46)).drew.setRow w.heap.size arr1).drew hB1 ((hB2 g hgw).trans hg) 3 (G - (i + 1)) (M - i)) ?_)
 go_wp2
 go_ret
 have ha1 := hHA.out
 have ha2 := hHB.out
 have hRt := hHR.out
 refine ⟨G, rfl, hGn, hGm, arr2, setRow_heap ((w.alloc (.cells ROW 46)).drew.setRow w.heap.size arr1).drew w.heap.size arr1 arr2 _ (0, 0) hB1, ?_, ?_, ?_⟩
 ·have : arr1.toList.length = G * 4 := by rw [← hs1]; rfl
  rw [ha2]; simp [hdl]; omega
 ·have hRl : ROW.toList.length = G * 4 := by rw [← hRs]; rfl
  have h1 : arr1.toList.take ((i + 1) * 4) = cs.take (i * 4) ++ vs := by
   rw [ha1]
   simp only
   rw [hRt, List.take_append_of_le_length (by rw [List.length_append, htl, hvl]; omega), List.take_of_length_le (by rw [List.length_append, htl, hvl]; omega)]
  rw [h1] at ha2
  rw [ha2]
  intro j v hj
  have hlt := (List.getElem?_eq_some_iff.1 hj).1
  rw [← Array.getElem?_toList]
  simp only
  rw [List.getElem?_append_left hlt]; exact hj
 ·refine (Ext.refl w).trans' rfl rfl rfl ?_ fun b hb => ?_
  ·have : ((((w.alloc (.cells ROW 46)).drew.setRow w.heap.size arr1).drew).setRow w.heap.size arr2).heap.size = w.heap.size + 1 := by
    rw [size_setRow]
    show ((w.alloc (.cells ROW 46)).drew.setRow w.heap.size arr1).heap.size = _
    rw [size_setRow]
    show (w.heap.push _).size = _
    simp
   omega
  ·exact (setRow_other ((w.alloc (.cells ROW 46)).drew.setRow w.heap.size arr1).drew w.heap.size b arr2 (by omega)).trans (hB2 b hb)
end Go.Proofs.YtoealglkenhphaaGreat
set_option linter.unusedVariables false
set_option linter.unusedSimpArgs false
set_option maxHeartbeats 1000000
set_option maxRecDepth 100000
namespace Go.Q
open Go.RowKit Go.D
def encE (e : TEdge) : List Value := [.int .i64 e.ID, .int .i64 e.From, .int .i64 e.To, .int .i64 e.Label]
theorem encE_len (l : List TEdge) : ((l.map encE).flatten).length = l.length * 4 := by
 induction l with
 | nil => simp
 | cons x l ih => rw [List.map_cons, List.flatten_cons, List.length_append, ih, List.length_cons, Nat.succ_mul]; simp [encE]; omega
theorem encE_flat (l : List TEdge) : (l.map cEdge).flatten = ((l.map encE).flatten).map T.v := by
 rw [List.map_flatten, List.map_map]
 congr 1
theorem encE_one (l : List TEdge) : ((l.map encE).flatten).all Value.oneCell' = true := by
 rw [List.all_eq_true]
 intro v hv
 obtain ⟨r, hr, hv⟩ := List.mem_flatten.1 hv
 obtain ⟨x, _, rfl⟩ := List.mem_map.1 hr
 simp [encE] at hv
 rcases hv with rfl | rfl | rfl | rfl <;> rfl
theorem Cs_ownV {w : World} : ∀ (vs : List Value) {cs : List Value} {G : List Nat}, Cs true w (vs.map T.v) cs G → G = [] ∧ cs = vs
 | [], cs, G, h => by simp only [List.map_nil, Cs] at h; exact ⟨h.2, h.1⟩
 | v :: vs, cs, G, h => by
  simp only [List.map_cons, Cs] at h
  obtain ⟨c1, cr, G1, G2, rfl, h2, h3, rfl⟩ := h
  simp only [C] at h2
  obtain ⟨rfl, rfl, _⟩ := h2
  obtain ⟨rfl, rfl⟩ := Cs_ownV vs h3
  exact ⟨rfl, rfl⟩
theorem own_edges {w : World} {l : List TEdge} {v : Value} {F : List Nat} (h : C true w (.sl 4 (l.map cEdge)) v F) (hl : 0 < l.length) :
  ∃ g M cur te, v = .slice (some ⟨g, 0, none⟩) l.length M ∧ F = [g] ∧ w.heap[g]? = some (.cells cur te (0, 0)) ∧ cur.size = M * 4 ∧ l.length ≤ M ∧ M ≤ maxLen ∧ Front ((l.map encE).flatten) cur := by
 have hc := h
 simp only [C] at hc
 obtain ⟨a0, n0, m0, rfl, _⟩ := hc
 obtain ⟨e1, e2, e3⟩ := h.hdr
 rw [List.length_map] at e1
 rcases h.blk with ⟨q1, q2, q3⟩ | ⟨g, G, cur, e', rfl, rfl, q3, q4, q5⟩
 ·have : l = [] := by simpa using q3
  subst this; simp at hl
 ·obtain ⟨s1, xs, s2, s3, s4⟩ := q5.flat
  rw [encE_flat] at s2
  obtain ⟨rfl, rfl⟩ := Cs_ownV _ s2
  refine ⟨g, m0, cur, e', by rw [e1], rfl, q3, q4, by omega, e3, fun j u hj => ?_⟩
  have := s4 j u hj
  simp only [Nat.zero_add, World.cell?, q3] at this
  simpa using this
theorem own_mk {w : World} {l : List TEdge} {g M : Nat} {arr : Array Value} {te : TypeId} (hg : w.heap[g]? = some (.cells arr te (0, 0))) (hs : arr.size = M * 4) (hM : l.length ≤ M ∧ M ≤ maxLen) (hf : Front ((l.map encE).flatten) arr) : C true w (.sl 4 (l.map cEdge)) (.slice (some ⟨g, 0, none⟩) l.length M) [g] := by
 unfold C
 refine ⟨_, _, _, rfl, by rw [List.length_map], hM.1, hM.2, .inr ⟨g, 0, [], rfl, rfl, (Array.getElem?_eq_some_iff.1 hg).1, fun _ => ⟨rfl, arr, te, hg, hs⟩, Rws.of (xs := (l.map encE).flatten) (fun row hr => ?_) ?_ fun j u hj => ?_⟩⟩
 ·obtain ⟨x, _, rfl⟩ := List.mem_map.1 hr; rfl
 ·rw [encE_flat]; exact Cs_vals (encE_one l)
 ·simp only [World.cell?, hg, Nat.zero_add]
  simpa using hf j u hj
theorem encE_ins {l : List TEdge} {i : Nat} {e : TEdge} (hi : i ≤ l.length) : ((l.take i ++ e :: l.drop i).map encE).flatten = ((l.map encE).flatten).take (i * 4) ++ encE e ++ ((l.map encE).flatten).drop (i * 4) := by
 have h1 : (l.map encE).flatten = ((l.take i).map encE).flatten ++ ((l.drop i).map encE).flatten := by rw [← List.flatten_append, ← List.map_append, List.take_append_drop]
 have h2 := encE_len (l.take i)
 rw [List.length_take, show min i l.length = i by omega] at h2
 have t1 : (l.map encE).flatten.take (i * 4) = ((l.take i).map encE).flatten := by rw [h1, ← h2]; simp
 have t2 : (l.map encE).flatten.drop (i * 4) = ((l.drop i).map encE).flatten := by rw [h1, ← h2]; simp
 rw [t1, t2]
 simp
end Go.Q
namespace Go.Proofs.YtoealglkenhphaaGreat
open Go.RowKit Go.Q Go.D
theorem InsertEdge1 (l : List TEdge) (i : Nat) (e : TEdge) (hi : i ≤ l.length) (hz : l.length ≤ 1048576) : FnC Tryz.prog 108 (ownAll [.sl 4 (l.map cEdge), .v (.int .i64 (i : Nat)), .sl 4 [cEdge e]]) (.a (.one (.sl 4 ((l.take i ++ e :: l.drop i).map cEdge)))) := by
 by_cases h : i = l.length
 ·subst h
  have := insEnd l e hz
  rwa [List.take_of_length_le (Nat.le_refl _), List.drop_of_length_le (Nat.le_refl _)]
 ·have hil : i < l.length := by omega
  refine ⟨⟨_, Tryz.func108, by kernel_rfl, by kernel_rfl⟩, fun w vs F hG hv hnd hth => ?_⟩
  obtain ⟨v1, r1, G1, G2, rfl, hC1, ⟨v2, r2, G3, G4, rfl, hC2, ⟨v3, r3, G5, G6, rfl, hC3, ⟨rfl, rfl⟩, hF3⟩, hF2⟩, hF1⟩ := hv
  simp only [if_true, List.append_nil] at hF1 hF2 hF3
  subst hF3
  simp only [V0r, C] at hC2
  obtain ⟨rfl, rfl, _⟩ := hC2
  rw [List.nil_append] at hF2
  subst hF2
  obtain ⟨g, M, cur, te, rfl, rfl, hg, hcur, hlM, hMm, hfr⟩ := own_edges hC1 (by omega)
  obtain ⟨vb, Mv, cur3, te3, rfl, rfl, hgv, hc3, _, _, hfv⟩ := own_edges (l := [e]) hC3 (by simp)
  subst hF1
  have hne : vb ≠ g := by
   intro e1
   subst e1
   simp at hnd
  have hcl := encE_len l
  have hvl : (encE e).length = 4 := rfl
  have h1c : ∀ v ∈ (l.map encE).flatten, v.oneCell' = true := List.all_eq_true.1 (encE_one l)
  have h1v : ∀ v ∈ encE e, v.oneCell' = true := fun v hv => List.all_eq_true.1 (encE_one [e]) v (by simpa using hv)
  have hfv' : Front (encE e) cur3 := by simpa using hfv
  have hlen : (l.take i ++ e :: l.drop i).length = l.length + 1 := by simp; omega
  by_cases hr : l.length + 1 ≤ M
  ·refine (insShift g M l.length i vb Mv cur cur3 te te3 _ _ w hil hr hMm hne hg hcur hgv hcl hvl hfr hfv' h1c h1v).mono fun e' w' ⟨he, arr, h1, h2, h3, h4⟩ => ?_
   have hchg : Chg w w' [g, vb] := ⟨h4.os, h4.tape, h4.output, h4.size, fun k hk hn => h4.block k hk (fun hm => hn (by simp at hm; simp [hm]))⟩
   refine ⟨_, [g], he, ?_, by simp, fun b hb => ?_, hchg⟩
   ·show C true w' _ _ _
    rw [← hlen]
    exact own_mk h1 h2 ⟨by omega, hMm⟩ (by rw [encE_ins hi]; exact h3)
   ·rw [List.mem_singleton] at hb
    subst hb
    exact ⟨.inr (by simp), _, _, h1⟩
  ·refine (insGrow g M l.length i vb Mv cur cur3 te te3 _ _ w hil hlM (by omega) hz hg hcur hgv hcl hvl hfr hfv' h1c h1v).mono fun e' w' ⟨Gc, he, hG1, hG2, arr, h1, h2, h3, h4⟩ => ?_
   have hchg : Chg w w' [g, vb] := ⟨h4.os, h4.tape, h4.output, h4.size, fun k hk hn => h4.block hk⟩
   refine ⟨_, [w.heap.size], he, ?_, by simp, fun b hb => ?_, hchg⟩
   ·show C true w' _ _ _
    rw [← hlen]
    exact own_mk h1 h2 ⟨by omega, hG2⟩ (by rw [encE_ins hi]; exact h3)
   ·rw [List.mem_singleton] at hb
    subst hb
    exact ⟨.inl (Nat.le_refl _), _, _, h1⟩
end Go.Proofs.YtoealglkenhphaaGreat
