/- Numbers in ascending order; what is reached; components. -/
import Derived.Test.YtbfejakbaijmhaaGreatB27xf
import Derived.Test.YtbfejakbaijmhaaGreatB16xf
import Derived.Test.YtbfejakbaijmhaaGreatSort1xf
set_option linter.unusedVariables false
set_option linter.unusedSimpArgs false
set_option maxHeartbeats 1000000
set_option maxRecDepth 100000
namespace Go.Q
open Go.D
/-! ### What a breadth first search reaches -/
inductive Rch (nx : Nat → List Int) (S : Int → Prop) : Int → Prop where
  | base {q : Int} : S q → Rch nx S q
  | step {q k : Int} : Rch nx S q → k ∈ nx q.toNat → Rch nx S k
theorem Rch.mono {nx : Nat → List Int} {S S' : Int → Prop} (h : ∀ q, S q → Rch nx S' q) {k : Int} (hr : Rch nx S k) : Rch nx S' k := by
  induction hr with
  | base hq => exact h _ hq
  | step _ hk ih => exact .step ih hk
/-! ### One or more steps: by bits -/
def R1 (nx : Nat → List Int) (i : Nat) (k : Int) : Prop := Rch nx (· ∈ nx i) k
theorem R1.trans {nx : Nat → List Int} {i j : Nat} {k : Int} (h1 : R1 nx i j) (h2 : R1 nx j k) : R1 nx i k := by
  refine Rch.mono (fun q hq => ?_) h2
  exact .step h1 (by simpa using hq)
def wB (l : List Int) : Nat := l.foldl (fun m k => m ||| 2 ^ k.toNat) 0
theorem foldl_or_test (j : Nat) : ∀ (l : List Int) (m : Nat), (l.foldl (fun m k => m ||| 2 ^ k.toNat) m).testBit j = (m.testBit j || l.any fun k => decide (k.toNat = j))
  | [], m => by simp
  | k :: l, m => by
    rw [List.foldl_cons, foldl_or_test j l, Nat.testBit_or, Nat.testBit_two_pow, List.any_cons, Bool.or_assoc]
theorem wB_test {l : List Int} (hl : ∀ k ∈ l, 0 ≤ k) (j : Nat) : (wB l).testBit j = true ↔ (j : Int) ∈ l := by
  unfold wB
  rw [foldl_or_test, Nat.zero_testBit, Bool.false_or, List.any_eq_true]
  constructor
  · rintro ⟨k, hk, h⟩
    have := hl k hk
    have e := of_decide_eq_true h
    rwa [show (j : Int) = k by omega]
  · intro h
    exact ⟨_, h, by simp⟩
/-! ### The components' numbers -/
section
variable (rel : Nat → Nat → Bool)
end
section
variable {rel : Nat → Nat → Bool}
end
def ltI (a b : Int) : Bool := decide (a < b)
theorem ltI_so : SO ltI := by
  constructor <;> intros <;> simp only [ltI, decide_eq_true_eq, decide_eq_false_iff_not] at * <;> omega
def ascL (l : List Int) : List Int := setG ltI l
end Go.Q
namespace Go.Proofs
open Go.Shelf Go.RowKit Go.Lib Go.Sort
def Tryz.lays189_ren:Go.Shelf.Ren:=⟨fun|189=>143|125=>171|257=>170|128=>188|129=>189|294=>179|295=>180|296=>181|297=>182|298=>183|299=>184|216=>185|300=>186|301=>187|328=>195|329=>196|330=>197|331=>198|332=>199|215=>200|343=>203|n=>n,fun|28=>22|3=>3|46=>182|0=>0|51=>197|53=>199|4=>4|183=>189|182=>188|131=>194|5=>5|9=>9|218=>206|222=>210|228=>213|229=>214|n=>n,fun|n=>n⟩
theorem Tryz.lays189:Go.Proofs.Lays.n189 Tryz.prog Tryz.lays189_ren:={
 mixed:=by kernel_rfl
 f125:=Tryz.func171.trans (congrArg some (by kernel_rfl))
 f128:=Tryz.func188.trans (congrArg some (by kernel_rfl))
 f129:=Tryz.func189.trans (congrArg some (by kernel_rfl))
 f189:=Tryz.func143.trans (congrArg some (by kernel_rfl))
 f215:=Tryz.func200.trans (congrArg some (by kernel_rfl))
 f216:=Tryz.func185.trans (congrArg some (by kernel_rfl))
 f257:=Tryz.func170.trans (congrArg some (by kernel_rfl))
 f294:=Tryz.func179.trans (congrArg some (by kernel_rfl))
 f295:=Tryz.func180.trans (congrArg some (by kernel_rfl))
 f296:=Tryz.func181.trans (congrArg some (by kernel_rfl))
 f297:=Tryz.func182.trans (congrArg some (by kernel_rfl))
 f298:=Tryz.func183.trans (congrArg some (by kernel_rfl))
 f299:=Tryz.func184.trans (congrArg some (by kernel_rfl))
 f300:=Tryz.func186.trans (congrArg some (by kernel_rfl))
 f301:=Tryz.func187.trans (congrArg some (by kernel_rfl))
 f328:=Tryz.func195.trans (congrArg some (by kernel_rfl))
 f329:=Tryz.func196.trans (congrArg some (by kernel_rfl))
 f330:=Tryz.func197.trans (congrArg some (by kernel_rfl))
 f331:=Tryz.func198.trans (congrArg some (by kernel_rfl))
 f332:=Tryz.func199.trans (congrArg some (by kernel_rfl))
 f343:=Tryz.func203.trans (congrArg some (by kernel_rfl))
 t0:=Tryz.underlying0
 a0:=Tryz.isAgg0
 z0:=Tryz.sizeOf0
 v0:=Tryz.zeroValue0
 t3:=Tryz.underlying3
 a3:=Tryz.isAgg3
 z3:=Tryz.sizeOf3
 v3:=Tryz.zeroValue3
 t4:=Tryz.underlying4
 a4:=Tryz.isAgg4
 z4:=Tryz.sizeOf4
 v4:=Tryz.zeroValue4
 t5:=Tryz.underlying5
 a5:=Tryz.isAgg5
 z5:=Tryz.sizeOf5
 v5:=Tryz.zeroValue5
 t9:=Tryz.underlying9
 a9:=Tryz.isAgg9
 z9:=Tryz.sizeOf9
 v9:=Tryz.zeroValue9
 t28:=Tryz.underlying22
 a28:=Tryz.isAgg22
 z28:=Tryz.sizeOf22
 v28:=Tryz.zeroValue22
 t46:=Tryz.underlying182
 a46:=Tryz.isAgg182
 z46:=Tryz.sizeOf182
 v46:=Tryz.zeroValue182
 t51:=Tryz.underlying197
 a51:=Tryz.isAgg197
 z51:=Tryz.sizeOf197
 v51:=Tryz.zeroValue197
 t53:=Tryz.underlying199
 a53:=Tryz.isAgg199
 z53:=Tryz.sizeOf199
 v53:=Tryz.zeroValue199
 t131:=Tryz.underlying194
 a131:=Tryz.isAgg194
 z131:=Tryz.sizeOf194
 v131:=Tryz.zeroValue194
 t182:=Tryz.underlying188
 a182:=Tryz.isAgg188
 z182:=Tryz.sizeOf188
 v182:=Tryz.zeroValue188
 t183:=Tryz.underlying189
 a183:=Tryz.isAgg189
 z183:=Tryz.sizeOf189
 v183:=Tryz.zeroValue189
 t218:=Tryz.underlying206
 a218:=Tryz.isAgg206
 z218:=Tryz.sizeOf206
 v218:=Tryz.zeroValue206
 t222:=Tryz.underlying210
 a222:=Tryz.isAgg210
 z222:=Tryz.sizeOf210
 v222:=Tryz.zeroValue210
 t228:=Tryz.underlying213
 a228:=Tryz.isAgg213
 z228:=Tryz.sizeOf213
 v228:=Tryz.zeroValue213
 t229:=Tryz.underlying214
 a229:=Tryz.isAgg214
 z229:=Tryz.sizeOf214
 v229:=Tryz.zeroValue214 }
end Go.Proofs
namespace Go.Proofs.YtbfejakbaijmhaaGreat
open Go.RowKit Go.Q Go.D
theorem slicesSortInt (l : List Int) (hl : l.length < 4611686018427387904) : FnS1 Tryz.prog 143 1 (l.map cInt) ((sortG ltI l).map cInt) := by
  refine FnS1.ints ⟨_, Tryz.func143, by kernel_rfl, by kernel_rfl⟩ (fun _ => rfl) (sortG ltI) sortG_len (fun p cap w => ?_) (fun blk cap zs w hH hb hz => ?_) l hl
  · have hcon := Any.slices_Sort_int_none Tryz.lays189 p cap w
    change Calls Tryz.prog 143 _ _ _ at hcon
    exact hcon
  · have hcon := Any.slices_Sort_int Tryz.lays189 blk 0 cap zs w hH hb hz
    change Calls Tryz.prog 143 _ _ _ at hcon
    have e : (fun x y : Int => decide (x ≤ y)) = leG ltI := by
      funext x y
      unfold leG ltI
      by_cases h : x ≤ y <;> simp [h] <;> omega
    rw [e] at hcon
    exact hcon
theorem CompactInt (l : List Int) (hz : l.length ≤ 1099511627776) : FnC Tryz.prog 144 [(true, .one (.sl 1 (l.map cInt)))] (.a (.one (.sl 1 ((compactL l).map cInt)))) := by
  refine FnC.walk Tryz.func144 rfl (by kernel_rfl) Tryz.ntmps144 rfl (by rfl) fun w0 => ?_
  refine AW.le (σ' := ⟨_, [(0, _)], [(1000, _)]⟩) (Le.sub0 rfl ⟨rfl, trivial⟩ ⟨rfl, trivial⟩) ?_
  try simp [cPair, cToken, cExpr, cEdge, cGraph, cStep, cWalk, cChange, cBatch, cHistory, cPositions, cAutomaton, cProductStep, cPathAtom, cConjunction, cView, cDelta, cRegistered, cRegistry] at hlen
  refine AW.seq ?_
  refine AW.region ?_
  refine AWl.put (R_assign rfl (.no rfl) rfl (.const rfl)) rfl ?_
  refine AWl.nilS (i := 2) 20001 1 rfl rfl ?_
  refine AWl.nil ?_
  refine AW.seq ?_
  refine AW.seq ?_
  refine AW.region ?_
  refine AWl.put (R_move rfl (.no rfl) rfl (.tmp rfl fun _ => rfl)) rfl ?_
  refine AWl.put ((by exact R_lenm rfl (.no rfl) rfl (.tmp rfl fun _ => rfl) (by exact .rf rfl) Tryz.underlying22)) rfl ?_
  refine AWl.put (R_lt rfl (.no rfl) rfl (.tmp rfl fun _ => rfl) (.const rfl)) rfl ?_
  refine AWl.nil ?_
  refine AW.cond (.tmp rfl fun _ => rfl) (fun h8 => ?_) (fun h8 => ?_)
  · skip
    try simp at h8
    refine AW.seq ?_
    refine AW.region ?_
    refine AWl.put (R_move rfl (.no rfl) rfl (.tmp rfl fun _ => rfl)) rfl ?_
    refine AWl.put (R_assign rfl (.no rfl) rfl (.tmp rfl fun _ => rfl)) rfl ?_
    refine AWl.nil ?_
    refine AW.ret ?_
    refine Res.one rfl (.tmp rfl .nil) rfl ?_
    rw [compactL_all (k := 1) (by omega) (fun j x y hj => by omega)]; rfl
  · skip
    try simp at h8
    refine AW.skip ?_
    refine AW.seq ?_
    refine AW.seq ?_
    refine AW.region ?_
    refine AWl.put (R_assign rfl (.no rfl) rfl (.const rfl)) rfl ?_
    refine AWl.nil ?_
    refine AW.block ?_
    refine AW.loop1 (fun (k : Nat) => ((1 ≤ k ∧ k ≤ l.length) ∧ ∀ j x y, j + 1 < k → l[j + 1]? = some x → l[j]? = some y → y ≠ x) ∧ True) (fun (k : Nat) => ⟨_, [(3, (true, .a (.one (.t (.v (.int .i64 (k : Nat))))))), (0, _)], [(1000, .row 1 (l.map cInt))]⟩) (fun (k : Nat) => l.length - k) (1) ⟨⟨⟨Nat.le_refl _, by omega⟩, fun j x y hj => by omega⟩, trivial⟩ (Le.sub0 rfl ⟨rfl, rfl, trivial⟩ ⟨rfl, trivial⟩) ?_
    rintro k ⟨hk, he⟩
    refine AW.seq ?_
    refine AW.seq ?_
    refine AW.region ?_
    refine AWl.put (R_move rfl (.no rfl) rfl (.tmp rfl fun _ => rfl)) rfl ?_
    refine AWl.put (R_move rfl (.no rfl) rfl (.tmp rfl fun _ => rfl)) rfl ?_
    refine AWl.put ((by exact R_lenm rfl (.no rfl) rfl (.tmp rfl fun _ => rfl) (by exact .rf rfl) Tryz.underlying22)) rfl ?_
    refine AWl.put (R_lt rfl (.no rfl) rfl (.tmp rfl fun _ => rfl) (.tmp rfl fun _ => rfl)) rfl ?_
    refine AWl.nil ?_
    refine AW.cond (.tmp rfl fun _ => rfl) (fun h13 => ?_) (fun h13 => ?_)
    · skip
      try simp at h13
      obtain ⟨x, hx⟩ : ∃ ξ, l[k]? = some ξ := ⟨_, List.getElem?_eq_getElem (by omega)⟩
      obtain ⟨y, hy⟩ : ∃ ξ, l[k - 1]? = some ξ := ⟨_, List.getElem?_eq_getElem (by omega)⟩
      have hy2 : l[((k : Int) - 1).toNat]? = some y := by (rw [show ((k : Int) - 1).toNat = k - 1 by omega]; exact hy)
      refine AW.skip ?_
      refine AW.seq ?_
      refine AW.block ?_
      refine AW.seq ?_
      refine AW.drawn 10 (nthB [[], [], [0, 1], [0, 1, 2], [], [], [5], [4, 5, 6], [4, 5, 6, 7], [0, 1, 2, 3, 4, 5, 6, 7, 8]]) (by kernel_rfl) (by kernel_rfl) (by kernel_rfl) ?_
      refine DrawC.step rfl rfl rfl (Loc.of rfl fun σ' hs => R_move rfl (.no rfl) (hd_sup hs rfl) (.tmp (hs.slots _ _ rfl) fun _ => rfl)) ?_
      refine DrawC.step rfl rfl rfl (Loc.of rfl fun σ' hs => R_move rfl (.no rfl) (hd_sup hs rfl) (.tmp (hs.slots _ _ rfl) fun _ => rfl)) ?_
      refine DrawC.step rfl rfl rfl (Loc.of rfl fun σ' hs => (by exact R_indexAddr_rf rfl (.no rfl) (hd_sup hs rfl) (.tmp (hs.slots _ _ rfl) fun _ => rfl) (hs.res _ _ rfl) (.tmp (hs.slots _ _ rfl) fun _ => rfl) Tryz.underlying22 ty3 (fun _ => ⟨by omega, (by exact map_get hx)⟩))) ?_
      refine DrawC.step rfl rfl rfl (Loc.of rfl fun σ' hs => (by exact R_load_pr rfl (.no rfl) (hd_sup hs rfl) (.tmp (hs.slots _ _ rfl) fun _ => rfl) (hs.res _ _ rfl) (by exact map_get hx) ty3 rfl rfl)) ?_
      refine DrawC.step rfl rfl rfl (Loc.of rfl fun σ' hs => R_move rfl (.no rfl) (hd_sup hs rfl) (.tmp (hs.slots _ _ rfl) fun _ => rfl)) ?_
      refine DrawC.step rfl rfl rfl (Loc.of rfl fun σ' hs => R_move rfl (.no rfl) (hd_sup hs rfl) (.tmp (hs.slots _ _ rfl) fun _ => rfl)) ?_
      refine DrawC.step rfl rfl rfl (Loc.of rfl fun σ' hs => R_sub rfl (.no rfl) (hd_sup hs rfl) (.tmp (hs.slots _ _ rfl) fun _ => rfl) (.const rfl) (fun _ => by omega)) ?_
      refine DrawC.step rfl rfl rfl (Loc.of rfl fun σ' hs => (by exact R_indexAddr_rf rfl (.no rfl) (hd_sup hs rfl) (.tmp (hs.slots _ _ rfl) fun _ => rfl) (hs.res _ _ rfl) (.tmp (hs.slots _ _ rfl) fun _ => rfl) Tryz.underlying22 ty3 (fun _ => ⟨by omega, (by exact map_get hy2)⟩))) ?_
      refine DrawC.step rfl rfl rfl (Loc.of rfl fun σ' hs => (by exact R_load_pr rfl (.no rfl) (hd_sup hs rfl) (.tmp (hs.slots _ _ rfl) fun _ => rfl) (hs.res _ _ rfl) (by exact map_get hy2) ty3 rfl rfl)) ?_
      refine DrawC.step rfl rfl rfl (Loc.of rfl fun σ' hs => R_eq rfl (.no rfl) (hd_sup hs rfl) (.tmp (hs.slots _ _ rfl) fun _ => rfl) (.tmp (hs.slots _ _ rfl) fun _ => rfl)) ?_
      refine DrawC.fin rfl rfl ?_
      refine AWl.nil ?_
      refine AW.cond (.tmp rfl fun _ => rfl) (fun h25 => ?_) (fun h25 => ?_)
      · skip
        try simp at h25
        have hst : l.take k = compactL (l.take (k + 1)) := by (obtain ⟨k', rfl⟩ : ∃ k', k = k' + 1 := ⟨k - 1, by omega⟩; rw [compactL_take hx hy, if_pos h25.symm, List.append_nil, compactL_id hk.1.2 hk.2])
        refine AW.seq ?_
        refine AW.le (σ' := ⟨_, [(0, _), (3, _)], [(1000, _)]⟩) (Le.sub0 rfl ⟨rfl, rfl, trivial⟩ ⟨rfl, trivial⟩) ?_
        refine AW.region ?_
        refine AWl.put (R_move rfl (.no rfl) rfl (.tmp rfl fun _ => rfl)) rfl ?_
        refine AWl.put (R_move rfl (.no rfl) rfl (.tmp rfl fun _ => rfl)) rfl ?_
        refine AWl.put ((by exact R_slice_rf (m := k) rfl (.no rfl) rfl (.tmp rfl fun _ => rfl) rfl (.yes (.tmp rfl fun _ => rfl) (fun _ => by first | rfl | omega | (simp <;> omega))) Tryz.underlying22 ty3 (fun _ => by simp; omega))) rfl ?_
        refine AWl.put (R_assign rfl (.no rfl) rfl (.tmp rfl fun _ => rfl)) rfl ?_
        refine AWl.nil ?_
        refine AW.seq ?_
        refine AW.seq ?_
        refine AW.region ?_
        refine AWl.put (R_assign rfl (.no rfl) rfl (.const rfl)) rfl ?_
        refine AWl.nil ?_
        refine AW.block ?_
        refine AW.loop3 (fun (k2 : Nat) (k1 : Nat) (Rr : List Int) => ((1 ≤ k2 ∧ k + k2 ≤ l.length ∧ k1 + 1 ≤ k + k2 ∧ Rr.length = l.length)) ∧ Rr.drop (k + k2 - 1) = l.drop (k + k2 - 1) ∧ Rr.take k1 = compactL (l.take (k + k2))) (fun (k2 : Nat) (k1 : Nat) (Rr : List Int) => ⟨_, [(5, (true, .a (.one (.t (.v (.int .i64 (k2 : Nat))))))), (3, (true, .a (.one (.t (.v (.int .i64 (k1 : Nat))))))), (4, (true, .a (.one (.tl 1000 1 k)))), (0, _)], [(1000, .row 1 (Rr.map cInt))]⟩) (fun (k2 : Nat) (k1 : Nat) (Rr : List Int) => l.length - k2) (1) (k) (l) ⟨⟨by omega, by omega, by omega, rfl⟩, rfl, hst⟩ (Le.sub0 rfl ⟨rfl, rfl, rfl, rfl, trivial⟩ ⟨rfl, trivial⟩) ?_
        rintro k2 k1 Rr ⟨hk1, he1⟩
        refine AW.seq ?_
        refine AW.seq ?_
        refine AW.region ?_
        refine AWl.put (R_move rfl (.no rfl) rfl (.tmp rfl fun _ => rfl)) rfl ?_
        refine AWl.put (R_move rfl (.no rfl) rfl (.tmp rfl fun _ => rfl)) rfl ?_
        refine AWl.put ((by exact R_len_tl rfl (.no rfl) rfl (.tmp rfl fun _ => rfl) rfl Tryz.underlying22)) rfl ?_
        refine AWl.put (R_lt rfl (.no rfl) rfl (.tmp rfl fun _ => rfl) (.tmp rfl fun _ => rfl)) rfl ?_
        refine AWl.nil ?_
        refine AW.cond (.tmp rfl fun _ => rfl) (fun h32 => ?_) (fun h32 => ?_)
        · skip
          try simp at h32
          obtain ⟨x2, hx2⟩ : ∃ ξ, l[k + k2]? = some ξ := ⟨_, List.getElem?_eq_getElem (by omega)⟩
          obtain ⟨y2, hy2'⟩ : ∃ ξ, l[k + k2 - 1]? = some ξ := ⟨_, List.getElem?_eq_getElem (by omega)⟩
          have hx2R : Rr[k + (k2 : Int).toNat]? = some x2 := by (rw [drop_get he1.1 (by omega)]; exact hx2)
          have hy2R : Rr[k + ((k2 : Int) - 1).toNat]? = some y2 := by (rw [show k + ((k2 : Int) - 1).toNat = k + k2 - 1 by omega, drop_get he1.1 (by omega)]; exact hy2')
          obtain ⟨r1, hr1⟩ : ∃ ξ, Rr[k1]? = some ξ := ⟨_, List.getElem?_eq_getElem (by omega)⟩
          refine AW.skip ?_
          refine AW.seq ?_
          refine AW.block ?_
          refine AW.seq ?_
          refine AW.drawn 10 (nthB [[], [], [0, 1], [0, 1, 2], [], [], [5], [4, 5, 6], [4, 5, 6, 7], [0, 1, 2, 3, 4, 5, 6, 7, 8]]) (by kernel_rfl) (by kernel_rfl) (by kernel_rfl) ?_
          refine DrawC.step rfl rfl rfl (Loc.of rfl fun σ' hs => R_move rfl (.no rfl) (hd_sup hs rfl) (.tmp (hs.slots _ _ rfl) fun _ => rfl)) ?_
          refine DrawC.step rfl rfl rfl (Loc.of rfl fun σ' hs => R_move rfl (.no rfl) (hd_sup hs rfl) (.tmp (hs.slots _ _ rfl) fun _ => rfl)) ?_
          refine DrawC.step rfl rfl rfl (Loc.of rfl fun σ' hs => (by exact R_indexAddr_tl rfl (.no rfl) (hd_sup hs rfl) (.tmp (hs.slots _ _ rfl) fun _ => rfl) (hs.res _ _ rfl) (.tmp (hs.slots _ _ rfl) fun _ => rfl) Tryz.underlying22 ty3 (fun _ => ⟨by omega, (by exact map_get hx2R)⟩))) ?_
          refine DrawC.step rfl rfl rfl (Loc.of rfl fun σ' hs => (by exact R_load_pr rfl (.no rfl) (hd_sup hs rfl) (.tmp (hs.slots _ _ rfl) fun _ => rfl) (hs.res _ _ rfl) (by exact map_get hx2R) ty3 rfl rfl)) ?_
          refine DrawC.step rfl rfl rfl (Loc.of rfl fun σ' hs => R_move rfl (.no rfl) (hd_sup hs rfl) (.tmp (hs.slots _ _ rfl) fun _ => rfl)) ?_
          refine DrawC.step rfl rfl rfl (Loc.of rfl fun σ' hs => R_move rfl (.no rfl) (hd_sup hs rfl) (.tmp (hs.slots _ _ rfl) fun _ => rfl)) ?_
          refine DrawC.step rfl rfl rfl (Loc.of rfl fun σ' hs => R_sub rfl (.no rfl) (hd_sup hs rfl) (.tmp (hs.slots _ _ rfl) fun _ => rfl) (.const rfl) (fun _ => by omega)) ?_
          refine DrawC.step rfl rfl rfl (Loc.of rfl fun σ' hs => (by exact R_indexAddr_tl rfl (.no rfl) (hd_sup hs rfl) (.tmp (hs.slots _ _ rfl) fun _ => rfl) (hs.res _ _ rfl) (.tmp (hs.slots _ _ rfl) fun _ => rfl) Tryz.underlying22 ty3 (fun _ => ⟨by omega, (by exact map_get hy2R)⟩))) ?_
          refine DrawC.step rfl rfl rfl (Loc.of rfl fun σ' hs => (by exact R_load_pr rfl (.no rfl) (hd_sup hs rfl) (.tmp (hs.slots _ _ rfl) fun _ => rfl) (hs.res _ _ rfl) (by exact map_get hy2R) ty3 rfl rfl)) ?_
          refine DrawC.step rfl rfl rfl (Loc.of rfl fun σ' hs => R_ne rfl (.no rfl) (hd_sup hs rfl) (.tmp (hs.slots _ _ rfl) fun _ => rfl) (.tmp (hs.slots _ _ rfl) fun _ => rfl)) ?_
          refine DrawC.fin rfl rfl ?_
          refine AWl.nil ?_
          refine AW.cond (.tmp rfl fun _ => rfl) (fun h44 => ?_) (fun h44 => ?_)
          · skip
            try simp at h44
            refine AW.seq ?_
            refine AW.le (σ' := ⟨_, [(0, _), (3, _), (4, _), (5, _)], [(1000, _)]⟩) (Le.sub0 rfl ⟨rfl, rfl, rfl, rfl, trivial⟩ ⟨rfl, trivial⟩) ?_
            refine AW.region ?_
            refine AWl.put (R_move rfl (.no rfl) rfl (.tmp rfl fun _ => rfl)) rfl ?_
            refine AWl.put (R_move rfl (.no rfl) rfl (.tmp rfl fun _ => rfl)) rfl ?_
            refine AWl.put (R_move rfl (.no rfl) rfl (.tmp rfl fun _ => rfl)) rfl ?_
            refine AWl.put (R_move rfl (.no rfl) rfl (.tmp rfl fun _ => rfl)) rfl ?_
            refine AWl.put ((by exact R_indexAddr_tl rfl (.no rfl) rfl (.tmp rfl fun _ => rfl) rfl (.tmp rfl fun _ => rfl) Tryz.underlying22 ty3 (fun _ => ⟨by omega, (by exact map_get hx2R)⟩))) rfl ?_
            refine AWl.put ((by exact R_load_pr rfl (.no rfl) rfl (.tmp rfl fun _ => rfl) rfl (by exact map_get hx2R) ty3 rfl rfl)) rfl ?_
            refine AWl.put ((by exact R_indexAddr_rf rfl (.no rfl) rfl (.tmp rfl fun _ => rfl) rfl (.tmp rfl fun _ => rfl) Tryz.underlying22 ty3 (fun _ => ⟨by omega, map_get hr1⟩))) rfl ?_
            refine AWl.absupd (R_store_pr rfl rfl rfl (.tmp rfl fun _ => rfl) rfl (.tmp rfl fun _ => rfl) rfl (map_get hr1) ty3 rfl rfl rfl rfl) ?_
            refine AWl.nil ?_
            refine AW.le (σ' := ⟨_, [(0, _), (3, _), (4, _), (5, _)], [(1000, _)]⟩) (Le.sub0 rfl ⟨rfl, rfl, rfl, rfl, trivial⟩ ⟨rfl, trivial⟩) ?_
            refine AW.region ?_
            refine AWl.put (R_move rfl (.no rfl) rfl (.tmp rfl fun _ => rfl)) rfl ?_
            refine AWl.put (R_add rfl (.no rfl) rfl (.tmp rfl fun _ => rfl) (.const rfl) (fun _ => by omega)) rfl ?_
            refine AWl.put (R_assign rfl (.no rfl) rfl (.tmp rfl fun _ => rfl)) rfl ?_
            refine AWl.nil ?_
            refine AW.region ?_
            refine AWl.put (R_move rfl (.no rfl) rfl (.tmp rfl fun _ => rfl)) rfl ?_
            refine AWl.put (R_add rfl (.no rfl) rfl (.tmp rfl fun _ => rfl) (.const rfl) (fun _ => by omega)) rfl ?_
            refine AWl.put (R_assign rfl (.no rfl) rfl (.tmp rfl fun _ => rfl)) rfl ?_
            refine AWl.nil ?_
            repeat (with_reducible refine BlockQ.nor ?_)
            refine Round3.next (k2 + 1) (k1 + 1) (Rr.set k1 x2) ⟨⟨by omega, by omega, by omega, by simp; omega⟩, by rw [set_drop (by omega)]; exact drop_more he1.1 (by omega), by rw [set_take (by omega), he1.2, show k + (k2 + 1) = k + k2 + 1 by omega, compactL_take' (by omega) hx2 hy2', if_neg (fun e => h44 e.symm)]⟩ (by omega) (Le.sub0 rfl ⟨rfl, rfl, rfl, rfl, trivial⟩ ⟨(by (refine congrArg (fun r => some (R.row _ r)) ?_; simp [chunk, List.map_set, cInt, cBool, cIntS, cPair, cToken, cExpr, cEdge, cGraph, cStep, cWalk, cChange, cBatch, cHistory, cPositions, cAutomaton, cProductStep, cPathAtom, cConjunction, cView, cDelta, cRegistered, cRegistry])), trivial⟩)
          · skip
            try simp at h44
            refine AW.skip ?_
            refine AW.le (σ' := ⟨_, [(0, _), (3, _), (4, _), (5, _)], [(1000, _)]⟩) (Le.sub0 rfl ⟨rfl, rfl, rfl, rfl, trivial⟩ ⟨rfl, trivial⟩) ?_
            refine AW.region ?_
            refine AWl.put (R_move rfl (.no rfl) rfl (.tmp rfl fun _ => rfl)) rfl ?_
            refine AWl.put (R_add rfl (.no rfl) rfl (.tmp rfl fun _ => rfl) (.const rfl) (fun _ => by omega)) rfl ?_
            refine AWl.put (R_assign rfl (.no rfl) rfl (.tmp rfl fun _ => rfl)) rfl ?_
            refine AWl.nil ?_
            repeat (with_reducible refine BlockQ.nor ?_)
            refine Round3.next (k2 + 1) (k1) (Rr) ⟨⟨by omega, by omega, by omega, hk1.2.2.2⟩, drop_more he1.1 (by omega), by rw [he1.2, show k + (k2 + 1) = k + k2 + 1 by omega, compactL_take' (by omega) hx2 hy2', if_pos h44.symm, List.append_nil]⟩ (by omega) (Le.sub0 rfl ⟨rfl, rfl, rfl, rfl, trivial⟩ ⟨(by rfl), trivial⟩)
        · skip
          try simp at h32
          refine AW.exit ?_
          refine AW.seq ?_
          refine AW.region ?_
          refine AWl.put (R_move rfl (.no rfl) rfl (.tmp rfl fun _ => rfl)) rfl ?_
          refine AWl.put (R_move rfl (.no rfl) rfl (.tmp rfl fun _ => rfl)) rfl ?_
          refine AWl.put ((by exact R_slice_rf (m := k1) rfl (.no rfl) rfl (.tmp rfl fun _ => rfl) rfl (.yes (.tmp rfl fun _ => rfl) (fun _ => by first | rfl | omega | (simp <;> omega))) Tryz.underlying22 ty3 (fun _ => by simp; omega))) rfl ?_
          refine AWl.absupd (R_clear rfl rfl rfl (.tmp rfl fun _ => rfl) rfl Tryz.underlying22 in3 rfl rfl) ?_
          refine AWl.nil ?_
          refine AW.seq ?_
          refine AW.le (σ' := ⟨_, [(0, _), (3, _), (4, _), (5, _)], [(1000, _)]⟩) (Le.sub0 rfl ⟨rfl, rfl, rfl, rfl, trivial⟩ ⟨rfl, trivial⟩) ?_
          refine AW.region ?_
          refine AWl.put (R_move rfl (.no rfl) rfl (.tmp rfl fun _ => rfl)) rfl ?_
          refine AWl.put (R_move rfl (.no rfl) rfl (.tmp rfl fun _ => rfl)) rfl ?_
          refine AWl.chgput (R_cut (m := k1) rfl rfl rfl (.tmp rfl fun _ => rfl) rfl (.yes (.tmp rfl fun _ => rfl) (fun _ => by first | rfl | omega | (simp <;> omega))) Tryz.underlying22 ty3 (by simp; omega)) rfl ?_
          refine AWl.le (σ' := ⟨_, [(0, _), (3, _), (4, _), (5, _), (59, _)], [(1000, _)]⟩) (Le.sub0 rfl ⟨rfl, rfl, rfl, rfl, rfl, trivial⟩ ⟨rfl, trivial⟩) ?_
          refine AWl.put (R_assign rfl (.no rfl) rfl (.tmp rfl fun _ => rfl)) rfl ?_
          refine AWl.nil ?_
          refine AW.ret ?_
          refine Res.one rfl (.tmp rfl .nil) rfl ?_
          refine congrArg (fun r => [V0.one (T.sl 1 r)]) ?_; exact cut_rows (by rw [he1.2, List.take_of_length_le (by omega)]) (by omega)
      · skip
        try simp at h25
        refine AW.skip ?_
        refine AW.le (σ' := ⟨_, [(0, _), (3, _)], [(1000, _)]⟩) (Le.sub0 rfl ⟨rfl, rfl, trivial⟩ ⟨rfl, trivial⟩) ?_
        refine AW.region ?_
        refine AWl.put (R_move rfl (.no rfl) rfl (.tmp rfl fun _ => rfl)) rfl ?_
        refine AWl.put (R_add rfl (.no rfl) rfl (.tmp rfl fun _ => rfl) (.const rfl) (fun _ => by omega)) rfl ?_
        refine AWl.put (R_assign rfl (.no rfl) rfl (.tmp rfl fun _ => rfl)) rfl ?_
        refine AWl.nil ?_
        repeat (with_reducible refine BlockQ.nor ?_)
        refine Round1.next (k + 1) ⟨⟨by omega, fun j x' y' hj hx' hy' => by rcases Nat.lt_or_eq_of_le (Nat.le_of_lt_succ hj) with h | h; exact hk.2 j x' y' h hx' hy'; (subst h; rw [hx] at hx'; rw [show j = j + 1 - 1 by omega] at hy'; rw [hy] at hy'; cases hx'; cases hy'; exact fun e => h25 e.symm)⟩, trivial⟩ (by omega) (Le.sub0 rfl ⟨rfl, rfl, trivial⟩ ⟨(by rfl), trivial⟩)
    · skip
      try simp at h13
      refine AW.exit ?_
      refine AW.seq ?_
      refine AW.region ?_
      refine AWl.put (R_move rfl (.no rfl) rfl (.tmp rfl fun _ => rfl)) rfl ?_
      refine AWl.put (R_assign rfl (.no rfl) rfl (.tmp rfl fun _ => rfl)) rfl ?_
      refine AWl.nil ?_
      refine AW.ret ?_
      refine Res.one rfl (.tmp rfl .nil) rfl ?_
      rw [compactL_all h13 (fun j x y hj => hk.2 j x y (by omega))]; rfl
theorem implascending (l : List Int) (hz : l.length ≤ 1073741824) : FnT Tryz.prog 101 [.one (.sl 1 (l.map cInt))] (.a (.one (.sl 1 ((ascL l).map cInt)))) := by
  refine FnT.walk Tryz.func101 rfl (by kernel_rfl) Tryz.ntmps101 rfl fun hlen w0 => ?_
  try simp [cPair, cToken, cExpr, cEdge, cGraph, cStep, cWalk, cChange, cBatch, cHistory, cPositions, cAutomaton, cProductStep, cPathAtom, cConjunction, cView, cDelta, cRegistered, cRegistry] at hlen
  refine AW.seq ?_
  refine AW.region ?_
  refine AWl.put (R_assign rfl (.no rfl) rfl (.const rfl)) rfl ?_
  refine AWl.nilS (i := 2) 20001 1 rfl rfl ?_
  refine AWl.nil ?_
  refine AW.seq ?_
  refine AW.region ?_
  refine AWl.put (R_move rfl (.no rfl) rfl (.tmp rfl fun _ => rfl)) rfl ?_
  refine AWl.adds (R_call 500 (implcopyInts l hz) rfl rfl rfl (.cons (.tmp rfl fun _ => rfl) rfl .nil) rfl rfl) rfl ?_
  refine AWl.put (R_assign rfl (.no rfl) rfl (.tmp rfl fun _ => rfl)) rfl ?_
  refine AWl.nil ?_
  refine AW.seq ?_
  refine AW.region ?_
  refine AWl.put (R_move rfl (.no rfl) rfl (.tmp rfl fun _ => rfl)) rfl ?_
  refine AWl.updput (R_sort1 rfl rfl rfl (.tmp rfl fun _ => rfl) rfl (slicesSortInt l (by omega))) rfl ?_
  refine AWl.nil ?_
  refine AW.seq ?_
  refine AW.region ?_
  refine AWl.put (R_move rfl (.no rfl) rfl (.tmp rfl fun _ => rfl)) rfl ?_
  apply AWl.consume
  case ho =>
    apply R_consume (xo := .tmp 8) 900 (CompactInt (sortG ltI l) (by rw [sortG_len]; omega)) rfl rfl rfl (.tmp rfl fun _ => rfl)
    case ha => rfl
    case hargs => exact (ArgC.own .nil)
    all_goals rfl
  case hd => rfl
  refine AWl.put (R_assign rfl (.no rfl) rfl (.tmp rfl fun _ => rfl)) rfl ?_
  refine AWl.nil ?_
  refine AW.ret ?_
  refine Res.one rfl (.tmp rfl .nil) rfl ?_
  unfold ascL; rw [← compact_sort ltI_so]; rfl
end Go.Proofs.YtbfejakbaijmhaaGreat
