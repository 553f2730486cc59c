import Derived.Test.YtbkhopfpejhnlaaGreatDoorB140ta
import Derived.Test.YtbkhopfpejhnlaaGreatDoorOpenBta
import Derived.Test.YtbkhopfpejhnlaaGreatDoorB97ta
set_option linter.unusedVariables false
set_option linter.unusedSimpArgs false
set_option maxHeartbeats 1000000
set_option maxRecDepth 100000
namespace Go.Q
open Go.RowKit Go.D
def encOut (x : Int × TBatch) : V := .tup [.one (.v (.int .i64 x.1)), .agg (cBatch x.2)]
def strOut (s : ByteArray) : V := .a (.one (.v (.string s)))
def atF (l : List Int) (i : Int) : Int := if i < l.length then l[i.toNat]?.getD 0 else (i * 37 + l.length * 11) % 256
theorem atF_le {l : List Int} {i : Int} (hb : ∀ n ∈ l, 0 ≤ n ∧ n < 256) : 0 ≤ atF l i ∧ atF l i < 256 := by
 unfold atF
 split
 · cases h : l[i.toNat]? with
   | none => simp
   | some x => exact hb x (List.mem_of_getElem? h)
 · omega
theorem getb {l : List Int} {i : Int} (hb : ∀ n ∈ l, 0 ≤ n ∧ n < 256) : 0 ≤ l[i.toNat]?.getD 0 ∧ l[i.toNat]?.getD 0 < 256 := by
 cases h : l[i.toNat]? with
 | none => simp
 | some x => exact hb x (List.mem_of_getElem? h)
theorem get_atF {l : List Int} {i : Int} (h0 : 0 ≤ i) (h : i < l.length) : l[i.toNat]? = some (l[i.toNat]?.getD 0) := by
 rw [List.getElem?_eq_getElem (by omega)]; rfl
theorem mul_cut {a n : Int} (h : 0 ≤ a ∧ a < 256) (h2 : 0 ≤ n ∧ n ≤ 600) : 0 ≤ a * (n + 1) ∧ a * (n + 1) ≤ 153255 ∧ 0 ≤ a * (n + 1) / 256 ∧ a * (n + 1) / 256 ≤ n := by
 have h3 : 0 ≤ a * (n + 1) := Int.mul_nonneg h.1 (by omega)
 have h4 : a * (n + 1) ≤ 255 * (n + 1) := Int.mul_le_mul_of_nonneg_right (by omega) (by omega)
 omega
theorem ext_bs (s : ByteArray) (k : Nat) : s.extract 0 k = bs (s.data.toList.take k) := by
 conv => lhs; rw [← bs_of s]
 rw [bs_extract, List.drop_zero]
theorem sz_len (s : ByteArray) : s.size = s.data.toList.length := by
 conv => lhs; rw [← bs_of s]
 exact bs_size _
theorem enc_isnt (v : Int) (b : TBatch) : ¬ recG (encRec v b) = decide (bs (encRec v b) = ⟨#[]⟩) := by
 have h := enc_is v b
 have e0 : bs [] = (⟨#[]⟩ : ByteArray) := rfl
 rw [e0] at h
 rw [h]
 cases decide (bs (encRec v b) = ⟨#[]⟩) <;> simp
end Go.Q
namespace Go.Proofs.YtbkhopfpejhnlaaGreatDoor
open Go.RowKit Go.Q Go.D
set_option maxRecDepth 100000 in
theorem lawssameInts (l r : List Int) : FnT Tryz.prog 33 [.one (.sl 1 (l.map cInt)), .one (.sl 1 (r.map cInt))] (.a (.one (.v (.bool (decide (l = r)))))) := by
 refine FnT.walk Tryz.func33 U (by kernel_rfl) Tryz.ntmps33 U fun hlen w0 => ?_
 try simp [cEdge, cGraph, cChange, cBatch, cHistory] at hlen
 refine AW.sr ?_
 refine AWl.ac ?_
 refine AWl.nil (AW.seq ?_)
 refine AW.sr ?_
 refine AWl.mv ?_
 refine AWl.p (by exact R_lenm U (.no U) U (.tm U) (by exact .t) Tryz.underlying55) U ?_
 refine AWl.mv ?_
 refine AWl.p (by exact R_lenm U (.no U) U (.tm U) (by exact .t) Tryz.underlying55) U ?_
 refine AWl.p (R_ne U (.no U) U (.tm U) (.tm U)) U ?_
 refine AWl.nil ?_
 refine AW.cond (.tm U) (fun h10 => ?_) (fun h10 => ?_)
 · skip
   try simp at h10
   refine AW.sr ?_
   refine AWl.ac ?_
   refine AWl.nil (AW.ret ?_)
   refine Res.v U U ?_
   congr 1; symm; exact decide_eq_false fun e => h10 (by rw [e])
 · skip
   try simp at h10
   refine AW.skip ?_
   refine AW.seq ?_
   refine AW.sr ?_
   refine AWl.ac ?_
   refine AWl.nil (AW.block ?_)
   refine AW.loop (β := Nat) (fun x => x ≤ l.length ∧ ∀ i, i < x → l[i]? = r[i]?) (fun x => ⟨_, [(5, (true, .a (.one (.t (.v (.int .i64 x)))))), (0, _), (1, _)], []⟩) (fun x => l.length - x) (0) ⟨Nat.zero_le _, by simp⟩ (Le.sub0 U ⟨U, U, U, Y⟩ trivial) ?_
   intro k hk
   obtain ⟨hk, he⟩ := hk
   refine AW.seq ?_
   refine AW.sr ?_
   refine AWl.mv ?_
   refine AWl.mv ?_
   refine AWl.p (by exact R_lenm U (.no U) U (.tm U) (by exact .t) Tryz.underlying55) U ?_
   refine AWl.p (R_lt U (.no U) U (.tm U) (.tm U)) U ?_
   refine AWl.nil ?_
   refine AW.cond (.tm U) (fun h14 => ?_) (fun h14 => ?_)
   · skip
     try simp at h14
     obtain ⟨x, hx⟩ : ∃ x, l[k]? = some x := ⟨_, List.getElem?_eq_getElem h14⟩
     obtain ⟨y, hy⟩ : ∃ y, r[k]? = some y := ⟨_, List.getElem?_eq_getElem (by omega)⟩
     refine AW.skip ?_
     refine AW.seq ?_
     refine AW.block ?_
     refine AW.seq ?_
     refine AW.drawn 9 (nthB [[], [], [0, 1], [0, 1, 2], [], [], [4, 5], [4, 5, 6], [0, 1, 2, 3, 4, 5, 6, 7]]) (by kernel_rfl) (by kernel_rfl) (by kernel_rfl) ?_
     refine DrawC.step U U U (Loc.of U fun σ' hs => R_move U (.no U) (hd_sup hs U) (.tm (hs.slots _ _ U))) ?_
     refine DrawC.step U U U (Loc.of U fun σ' hs => R_move U (.no U) (hd_sup hs U) (.tm (hs.slots _ _ U))) ?_
     refine DrawC.step U U U (Loc.of U fun σ' hs => (by exact R_indexAddr U (.no U) (hd_sup hs U) (.tm (hs.slots _ _ U)) (.tm (hs.slots _ _ U)) Tryz.underlying55 ty3 (fun _ => ⟨by omega, (by exact map_get (by assumption))⟩))) ?_
     refine DrawC.step U U U (Loc.of U fun σ' hs => (by exact R_load U (.no U) (hd_sup hs U) (.tm (hs.slots _ _ U)) ty3 U U)) ?_
     refine DrawC.step U U U (Loc.of U fun σ' hs => R_move U (.no U) (hd_sup hs U) (.tm (hs.slots _ _ U))) ?_
     refine DrawC.step U U U (Loc.of U fun σ' hs => R_move U (.no U) (hd_sup hs U) (.tm (hs.slots _ _ U))) ?_
     refine DrawC.step U U U (Loc.of U fun σ' hs => (by exact R_indexAddr U (.no U) (hd_sup hs U) (.tm (hs.slots _ _ U)) (.tm (hs.slots _ _ U)) Tryz.underlying55 ty3 (fun _ => ⟨by omega, (by exact map_get (by assumption))⟩))) ?_
     refine DrawC.step U U U (Loc.of U fun σ' hs => (by exact R_load U (.no U) (hd_sup hs U) (.tm (hs.slots _ _ U)) ty3 U U)) ?_
     refine DrawC.step U U U (Loc.of U fun σ' hs => R_ne U (.no U) (hd_sup hs U) (.tm (hs.slots _ _ U)) (.tm (hs.slots _ _ U))) ?_
     refine DrawC.fin U U ?_
     refine AWl.nil ?_
     refine AW.cond (.tm U) (fun h25 => ?_) (fun h25 => ?_)
     · skip
       try simp at h25
       refine AW.sr ?_
       refine AWl.ac ?_
       refine AWl.nil (AW.ret ?_)
       refine Res.v U U ?_
       congr 1; symm; exact decide_eq_false fun e => by rw [e] at hx; rw [hy] at hx; cases hx; simp at h25
     · skip
       try simp at h25
       have hxy : x = y := h25
       refine AW.skip ?_
       refine AW.region ?_
       refine AWl.mv ?_
       refine AWl.p (R_add U (.no U) U (.tm U) (.const U) (fun _ => by omega)) U ?_
       refine AWl.av ?_
       refine AWl.nil ?_
       refine Round.next (k + 1) ⟨by omega, fun i hi => by rcases Nat.lt_or_eq_of_le (Nat.le_of_lt_succ hi) with h | rfl; exact he i h; rw [hx, hy, hxy]⟩ (by omega) (Le.sub0 rfl ⟨rfl, rfl, rfl, Y⟩ trivial)
   · skip
     try simp at h14
     refine AW.exit ?_
     refine AW.sr ?_
     refine AWl.ac ?_
     refine AWl.nil (AW.ret ?_)
     refine Res.v U U ?_
     congr 1; symm; exact decide_eq_true (eq_of_getElem? (by omega) fun i hi => he i (by omega))
set_option maxRecDepth 100000 in
theorem lawsat (l : List Int) (i : Int) (h0 : 0 ≤ i ∧ i ≤ 1000) (hl : l.length ≤ 1048576) (hb : ∀ n ∈ l, 0 ≤ n ∧ n < 256) : FnT Tryz.prog 36 [.one (.sl 1 (byR l)), .one (.v (.int .i64 i))] (.a (.one (.v (.int .i64 (atF l i))))) := by
 refine FnT.walk Tryz.func36 U (by kernel_rfl) Tryz.ntmps36 U fun hlen w0 => ?_
 try simp [cEdge, cGraph, cChange, cBatch, cHistory] at hlen
 have hbl : (byR l).length = l.length := by simp [byR]
 refine AW.sr ?_
 refine AWl.ac ?_
 refine AWl.nil (AW.seq ?_)
 refine AW.sr ?_
 refine AWl.mv ?_
 refine AWl.mv ?_
 refine AWl.p (by exact R_lenm U (.no U) U (.tm U) (by exact .t) Tryz.underlying22) U ?_
 refine AWl.p (R_lt U (.no U) U (.tm U) (.tm U)) U ?_
 refine AWl.nil ?_
 refine AW.cond (.tm U) (fun h8 => ?_) (fun h8 => ?_)
 · skip
   try simp at h8
   refine AW.sr ?_
   refine AWl.mv ?_
   refine AWl.mv ?_
   refine AWl.p ((by exact R_indexAddr U (.no U) U (.tm U) (.tm U) Tryz.underlying22 ty5 (fun _ => ⟨by omega, (map_get (f := fun n : Int => [T.v (.int .u8 n)]) (l := l) (get_atF (by omega) (by omega)))⟩))) U ?_
   refine AWl.p (by exact R_load U (.no U) U (.tm U) ty5 U U) U ?_
   refine AWl.p (R_conv U (.no U) U (.tm U) (by rw [Tryz.underlying5]; rfl) Tryz.underlying3 (fun _ => wrap_in (by have := getb (i := i) hb; constructor <;> omega))) U ?_
   refine AWl.av ?_
   refine AWl.nil (AW.ret ?_)
   refine Res.v U U ?_
   congr 1; unfold atF; rw [if_pos (by omega)]
 · skip
   try simp at h8
   refine AW.skip ?_
   refine AW.sr ?_
   refine AWl.mv ?_
   refine AWl.p (R_mul U (.no U) U (.tm U) (.const U) (fun _ => by omega)) U ?_
   refine AWl.mv ?_
   refine AWl.p (by exact R_lenm U (.no U) U (.tm U) (by exact .t) Tryz.underlying22) U ?_
   refine AWl.p (R_mul U (.no U) U (.tm U) (.const U) (fun _ => by omega)) U ?_
   refine AWl.p (R_add U (.no U) U (.tm U) (.tm U) (fun _ => by omega)) U ?_
   refine AWl.p (R_rem U (.no U) U (.tm U) (.const U) (fun _ => by omega)) U ?_
   refine AWl.av ?_
   refine AWl.nil (AW.ret ?_)
   refine Res.v U U ?_
   congr 1; unfold atF; rw [if_neg (by omega)]
theorem neS97 (x0 : Bool) (x1 x2 x3 x4 : Int) (y0 : Bool) (y1 y2 y3 y4 : Int) (w : World) : (binOp .neq 97 (.agg (List.toArray [.bool x0, .int .i64 x1, .int .i64 x2, .int .i64 x3, .int .i64 x4])) (.agg (List.toArray [.bool y0, .int .i64 y1, .int .i64 y2, .int .i64 y3, .int .i64 y4]))).run Tryz.prog w = .ok (.bool (!(decide (x0 = y0) && decide (x1 = y1) && decide (x2 = y2) && decide (x3 = y3) && decide (x4 = y4)))) w := by
 have hs : Tryz.prog.stoodInHeld 97 = false := by kernel_rfl
 have hs2 : Tryz.prog.stoodInHeld 95 = false := by kernel_rfl
 simp [go_sem, hs, hs2, Tryz.underlying97, Tryz.underlying95]
 repeat' split
 all_goals simp [*]
set_option maxRecDepth 100000 in
theorem slicesEqualChange (l r : List TChange) : FnT Tryz.prog 68 [.one (.sl 5 (l.map cChange)), .one (.sl 5 (r.map cChange))] (.a (.one (.v (.bool (decide (l = r)))))) := by
 refine FnT.walk Tryz.func68 U (by kernel_rfl) Tryz.ntmps68 U fun hlen w0 => ?_
 try simp [cEdge, cGraph, cChange, cBatch, cHistory] at hlen
 refine AW.sr ?_
 refine AWl.ac ?_
 refine AWl.nil (AW.seq ?_)
 refine AW.sr ?_
 refine AWl.mv ?_
 refine AWl.p (by exact R_lenm U (.no U) U (.tm U) (by exact .t) Tryz.underlying45) U ?_
 refine AWl.mv ?_
 refine AWl.p (by exact R_lenm U (.no U) U (.tm U) (by exact .t) Tryz.underlying45) U ?_
 refine AWl.p (R_ne U (.no U) U (.tm U) (.tm U)) U ?_
 refine AWl.nil ?_
 refine AW.cond (.tm U) (fun h10 => ?_) (fun h10 => ?_)
 · skip
   try simp at h10
   refine AW.sr ?_
   refine AWl.ac ?_
   refine AWl.nil (AW.ret ?_)
   refine Res.v U U ?_
   congr 1; symm; exact decide_eq_false fun e => h10 (by rw [e])
 · skip
   try simp at h10
   refine AW.skip ?_
   refine AW.seq ?_
   refine AW.sr ?_
   refine AWl.mv ?_
   refine AWl.p (by exact R_lenm U (.no U) U (.tm U) (by exact .t) Tryz.underlying45) U ?_
   refine AWl.p (R_move U (.no U) U (.const U)) U ?_
   refine AWl.nil (AW.block ?_)
   refine AW.loop (β := Nat) (fun x => x ≤ l.length ∧ ∀ i, i < x → l[i]? = r[i]?) (fun x => ⟨_, [(13, (true, .a (.one (.t (.v (.int .i64 x)))))), (0, _), (1, _), (12, _)], []⟩) (fun x => l.length - x) (0) ⟨Nat.zero_le _, by simp⟩ (Le.sub0 U ⟨U, U, U, U, Y⟩ trivial) ?_
   intro k hk
   obtain ⟨hk, he⟩ := hk
   refine AW.sr ?_
   refine AWl.p (R_lt U (.no U) U (.tm U) (.tm U)) U ?_
   refine AWl.nil (AW.seq ?_)
   refine AW.cond (.tm U) (fun h14 => ?_) (fun h14 => ?_)
   · skip
     try simp at h14
     obtain ⟨x, hx⟩ : ∃ x, l[k]? = some x := ⟨_, List.getElem?_eq_getElem h14⟩
     obtain ⟨y, hy⟩ : ∃ y, r[k]? = some y := ⟨_, List.getElem?_eq_getElem (by omega)⟩
     refine AW.skip ?_
     refine AW.seq ?_
     refine AW.block ?_
     refine AW.sr ?_
     refine AWl.mv ?_
     refine AWl.av ?_
     refine AWl.nil (AW.seq ?_)
     refine AW.drawn 9 (nthB [[], [], [0, 1], [0, 1, 2], [], [], [4, 5], [4, 5, 6], [0, 1, 2, 3, 4, 5, 6, 7]]) (by kernel_rfl) (by kernel_rfl) (by kernel_rfl) ?_
     refine DrawC.step U U U (Loc.of U fun σ' hs => R_move U (.no U) (hd_sup hs U) (.tm (hs.slots _ _ U))) ?_
     refine DrawC.step U U U (Loc.of U fun σ' hs => R_move U (.no U) (hd_sup hs U) (.tm (hs.slots _ _ U))) ?_
     refine DrawC.step U U U (Loc.of U fun σ' hs => (by exact R_indexAddr U (.no U) (hd_sup hs U) (.tm (hs.slots _ _ U)) (.tm (hs.slots _ _ U)) Tryz.underlying45 ty97 (fun _ => ⟨by omega, (by exact map_get (by assumption))⟩))) ?_
     refine DrawC.step U U U (Loc.of U fun σ' hs => (by exact R_load U (.no U) (hd_sup hs U) (.tm (hs.slots _ _ U)) ty97 U U)) ?_
     refine DrawC.step U U U (Loc.of U fun σ' hs => R_move U (.no U) (hd_sup hs U) (.tm (hs.slots _ _ U))) ?_
     refine DrawC.step U U U (Loc.of U fun σ' hs => R_move U (.no U) (hd_sup hs U) (.tm (hs.slots _ _ U))) ?_
     refine DrawC.step U U U (Loc.of U fun σ' hs => (by exact R_indexAddr U (.no U) (hd_sup hs U) (.tm (hs.slots _ _ U)) (.tm (hs.slots _ _ U)) Tryz.underlying45 ty97 (fun _ => ⟨by omega, (by exact map_get (by assumption))⟩))) ?_
     refine DrawC.step U U U (Loc.of U fun σ' hs => (by exact R_load U (.no U) (hd_sup hs U) (.tm (hs.slots _ _ U)) ty97 U U)) ?_
     refine DrawC.step U U U (Loc.of U fun σ' hs => R_eqs U (.no U) (hd_sup hs U) (.tm (hs.slots _ _ U)) (.tm (hs.slots _ _ U)) U U (by kernel_rfl) (neS97 _ _ _ _ _ _ _ _ _ _)) ?_
     refine DrawC.fin U U ?_
     refine AWl.nil ?_
     refine AW.cond (.tm U) (fun h24 => ?_) (fun h24 => ?_)
     · skip
       try simp at h24
       refine AW.seq ?_
       refine AW.le (σ' := ⟨_, [(0, _), (1, _), (5, _), (12, _), (13, _)], []⟩) (Le.sub0 U ⟨U, U, U, U, U, Y⟩ trivial) ?_
       refine AW.region ?_
       refine AWl.ac ?_
       refine AWl.nil (AW.ret ?_)
       refine Res.v U U ?_
       congr 1; symm; exact decide_eq_false fun e => by rw [e] at hx; rw [hy] at hx; cases hx; simp at h24
     · skip
       try simp at h24
       have hxy : x = y := by first | exact h24 | exact TChange.ext_iff'.2 (by simpa [TEdge.ext_iff', and_assoc] using h24)
       refine AW.skip ?_
       refine AW.le (σ' := ⟨_, [(0, _), (1, _), (5, _), (12, _), (13, _)], []⟩) (Le.sub0 U ⟨U, U, U, U, U, Y⟩ trivial) ?_
       refine AW.region ?_
       refine AWl.p (R_add U (.no U) U (.tm U) (.const U) (fun _ => by omega)) U ?_
       refine AWl.mv ?_
       refine AWl.nil ?_
       refine Round.next (k + 1) ⟨by omega, fun i hi => by rcases Nat.lt_or_eq_of_le (Nat.le_of_lt_succ hi) with h | rfl; exact he i h; rw [hx, hy, hxy]⟩ (by omega) (Le.sub0 rfl ⟨rfl, rfl, rfl, rfl, Y⟩ trivial)
   · skip
     try simp at h14
     refine AW.exit ?_
     refine AW.sr ?_
     refine AWl.ac ?_
     refine AWl.nil (AW.ret ?_)
     refine Res.v U U ?_
     congr 1; symm; exact decide_eq_true (eq_of_getElem? (by omega) fun i hi => he i (by omega))
set_option maxRecDepth 100000 in
theorem implEqualBatches (a b : TBatch) : FnT Tryz.prog 28 [.agg (cBatch a), .agg (cBatch b)] (.a (.one (.v (.bool (decide (a = b)))))) := by
 refine FnT.walk Tryz.func28 U (by kernel_rfl) Tryz.ntmps28 U fun hlen w0 => ?_
 try simp [cEdge, cGraph, cChange, cBatch, cHistory] at hlen
 refine AW.sr ?_
 refine AWl.p (R_boxz U U U (.tm U) (ts := _) (by rfl)) U ?_
 refine AWl.p (R_boxz U U U (.tm U) (ts := _) (by rfl)) U ?_
 refine AWl.ac ?_
 refine AWl.nil (AW.sr ?_)
 refine AWl.p (by exact R_fieldAddr U (.no U) U (.tm U) fl47_0) U ?_
 refine AWl.p (by exact R_load U (.no U) U (.tm U) ty45 U U) U ?_
 refine AWl.p (by exact R_fieldAddr U (.no U) U (.tm U) fl47_0) U ?_
 refine AWl.p (by exact R_load U (.no U) U (.tm U) ty45 U U) U ?_
 refine AWl.p (R_callz (FnT.fr (slicesEqualChange a.Changes b.Changes)) U (.no U) U (.cons (.tm U) U (.cons (.tm U) U .nil))) U ?_
 refine AWl.av ?_
 refine AWl.nil (AW.ret ?_)
 refine Res.v U U ?_
 cases a; cases b; simp
set_option maxRecDepth 100000 in
theorem specDrawEncodeRecord (bs : List Int) (hb : ∀ n ∈ bs, 0 ≤ n ∧ n < 256) : FrX Tryz.prog 24 [.one (.sl 1 (byR bs))] (fun x : Int × TBatch => x.2.Changes.length ≤ 7) encOut := by
 refine FrX.walk Tryz.func24 rfl (by kernel_rfl) Tryz.ntmps24 rfl fun w0 => ?_
 refine AW.sr ?_
 refine AWl.ac ?_
 refine AWl.add (R_alloc 3 U U U in47 U U U) U ?_
 refine AWl.nil (AW.sr ?_)
 refine AWl.mv ?_
 refine AWl.opE (R_calln 888888 (specl1New) U U U (.tm U) (by assumption) U) ?_
 rintro _ ⟨g, rfl⟩
 refine AWl.av ?_
 refine AWl.nil (AW.sr ?_)
 refine AWl.mv ?_
 refine AWl.absadd (R_list (xs := [.const (.int .i64 (1)), .const (.int .i64 (2)), .const (.int .i64 (10)), .const (.int .i64 (999)), .const (.int .i64 (0)), .const (.int .i64 (1000))]) 8 U U U (.cons (.const U) U U (.cons (.const U) U U (.cons (.const U) U U (.cons (.const U) U U (.cons (.const U) U U (.cons (.const U) U U .nil)))))) Tryz.underlying55 in3 U U U U) U ?_
 refine AWl.opE (R_calld 900 (specl1PickInt [1, 2, 10, 999, 0, 1000] (by decide)) U U U (.tm U) U U (.cons (.tm U) U .nil) (fun _ => rfl) (fun _ => rfl)) ?_
 rintro _ ⟨z9, hz9, rfl⟩
 try dsimp only at hz9
 refine AWl.mv ?_
 refine AWl.mv ?_
 refine AWl.opE (R_calld 1200 (specl3GraphV) U U U (.tm U) U U .nil (fun _ => rfl) (fun _ => rfl)) ?_
 rintro _ ⟨z12, hz12, rfl⟩
 try dsimp only at hz12
 refine AWl.mv ?_
 refine AWl.absadd (R_list (xs := [.const (.int .i64 (0)), .const (.int .i64 (3)), .const (.int .i64 (7))]) 14 U U U (.cons (.const U) U U (.cons (.const U) U U (.cons (.const U) U U .nil))) Tryz.underlying55 in3 U U U U) U ?_
 refine AWl.opE (R_calld 1500 (specl1PickInt [0, 3, 7] (by decide)) U U U (.tm U) U U (.cons (.tm U) U .nil) (fun _ => rfl) (fun _ => rfl)) ?_
 rintro _ ⟨z15, hz15, rfl⟩
 try dsimp only at hz15
 refine AWl.opE (R_calld 1600 (specl6Batch z12 z15 hz12 (by simp at hz15; omega)) U U U (.tm U) U U (.cons (.tm U) U (.cons (.tm U) U .nil)) (fun _ => rfl) (fun _ => rfl)) ?_
 rintro _ ⟨z16, hz16, rfl⟩
 try dsimp only at hz16
 refine AWl.av ?_
 refine AWl.chgb (R_store_pb U U U (.tm U) (.tm U) U ty47 U U U (by kernel_rfl) U) ?_
 refine AWl.nil (AW.ret ?_)
 apply ERRes.mk (x := (z9, z16))
 case h =>
  refine ResR.many U (.tmp U (.cell U U ty47 U U .nil)) U ?_ (by simp)
  rfl
 case hp => exact hz16
set_option maxRecDepth 100000 in
theorem specDrawDecodeRecord (bs : List Int) (hb : ∀ n ∈ bs, 0 ≤ n ∧ n < 256) : FrX Tryz.prog 29 [.one (.sl 1 (byR bs))] (fun s : ByteArray => s.size ≤ 133) strOut := by
 refine FrX.walk Tryz.func29 rfl (by kernel_rfl) Tryz.ntmps29 rfl fun w0 => ?_
 refine AW.sr ?_
 refine AWl.ac ?_
 refine AWl.nil (AW.sr ?_)
 refine AWl.mv ?_
 refine AWl.opE (R_calln 888888 (specl1New) U U U (.tm U) (by assumption) U) ?_
 rintro _ ⟨g, rfl⟩
 refine AWl.av ?_
 refine AWl.nil (AW.sr ?_)
 refine AWl.mv ?_
 refine AWl.absadd (R_list (xs := [.const (.int .i64 (1)), .const (.int .i64 (2)), .const (.int .i64 (10)), .const (.int .i64 (999))]) 8 U U U (.cons (.const U) U U (.cons (.const U) U U (.cons (.const U) U U (.cons (.const U) U U .nil)))) Tryz.underlying55 in3 U U U U) U ?_
 refine AWl.opE (R_calld 900 (specl1PickInt [1, 2, 10, 999] (by decide)) U U U (.tm U) U U (.cons (.tm U) U .nil) (fun _ => rfl) (fun _ => rfl)) ?_
 rintro _ ⟨z9, hz9, rfl⟩
 try dsimp only at hz9
 refine AWl.mv ?_
 refine AWl.mv ?_
 refine AWl.opE (R_calld 1200 (specl3GraphV) U U U (.tm U) U U .nil (fun _ => rfl) (fun _ => rfl)) ?_
 rintro _ ⟨z12, hz12, rfl⟩
 try dsimp only at hz12
 refine AWl.opE (R_calld 1300 (specl6Batch z12 3 hz12 (by omega)) U U U (.tm U) U U (.cons (.tm U) U (.cons (.const U) U .nil)) (fun _ => rfl) (fun _ => rfl)) ?_
 rintro _ ⟨z13, hz13, rfl⟩
 try dsimp only at hz13
 refine AWl.p (R_callz (FnT.fr (specEncodeRecord z9 z13)) U (.no U) U (.cons (.tm U) U (.cons (.tm U) U .nil))) U ?_
 refine AWl.av ?_
 refine AWl.nil (AW.seq ?_)
 refine AW.seq ?_
 refine AW.le (σ' := ⟨_, [(0, _), (2, _), (3, _), (4, _)], [(888888, _), (8, _), (1200, _), (1201, _), (1300, _)]⟩) (Le.sub0 U ⟨U, U, U, U, Y⟩ ⟨U, U, U, U, U, Y⟩) ?_
 refine AW.region ?_
 refine AWl.mv ?_
 refine AWl.opE (R_calld 1600 (specl1Once _) U U U (.tm U) U U (.cons (.const U) U .nil) (fun _ => rfl) (fun _ => rfl)) ?_
 rintro _ ⟨z16, hz16, rfl⟩
 try dsimp only at hz16
 refine AWl.nil ?_
 refine AW.cond (.tm U) (fun h16 => ?_) (fun h16 => ?_)
 · skip
   try simp at h16
   have he := enc_len z9 z13
   refine AW.sr ?_
   refine AWl.mv ?_
   refine AWl.mv ?_
   refine AWl.opE (R_calld 1900 (specl1Spoil (Go.Q.bs (encRec z9 z13)) (by have := enc_len z9 z13; rw [bs_size]; omega)) U U U (.tm U) U U (.cons (.tm U) U .nil) (fun _ => rfl) (fun _ => rfl)) ?_
   rintro _ ⟨z19, hz19, rfl⟩
   try dsimp only at hz19
   refine AWl.av ?_
   refine AWl.nil (AW.ret ?_)
   apply ERRes.mk (x := z19)
   case h =>
    refine ResR.one U (.tmp U .nil) U ?_
    rfl
   case hp => exact (by rw [bs_size] at hz19; omega)
 · skip
   try simp at h16
   have he := enc_len z9 z13
   refine AW.skip ?_
   refine AW.sr ?_
   refine AWl.mv ?_
   refine AWl.av ?_
   refine AWl.nil (AW.ret ?_)
   apply ERRes.mk (x := Go.Q.bs (encRec z9 z13))
   case h =>
    refine ResR.one U (.tmp U .nil) U ?_
    rfl
   case hp => exact (by rw [bs_size]; omega)
set_option maxRecDepth 100000 in
theorem specDrawScanLog (bs : List Int) (hb : ∀ n ∈ bs, 0 ≤ n ∧ n < 256) : FrX Tryz.prog 30 [.one (.sl 1 (byR bs))] (fun s : ByteArray => s.size ≤ 600) strOut := by
 refine FrX.walk Tryz.func30 rfl (by kernel_rfl) Tryz.ntmps30 rfl fun w0 => ?_
 refine AW.sr ?_
 refine AWl.ac ?_
 refine AWl.nil (AW.sr ?_)
 refine AWl.mv ?_
 refine AWl.opE (R_calln 888888 (specl1New) U U U (.tm U) (by assumption) U) ?_
 rintro _ ⟨g, rfl⟩
 refine AWl.av ?_
 refine AWl.nil (AW.sr ?_)
 refine AWl.mv ?_
 refine AWl.mv ?_
 refine AWl.opE (R_calldr 800 (specl7History) U U U (.tm U) U U .nil U) ?_
 rintro _ ⟨z8, hz8, rfl⟩
 try dsimp only at hz8
 refine AWl.opE (R_calld 900 (specl32Log z8 hz8) U U U (.tm U) U U (.cons (.tm U) U .nil) (fun _ => rfl) (fun _ => rfl)) ?_
 rintro _ ⟨z9, hz9, rfl⟩
 try dsimp only at hz9
 refine AWl.av ?_
 refine AWl.nil (AW.ret ?_)
 apply ERRes.mk (x := z9)
 case h =>
  refine ResR.one U (.tmp U .nil) U ?_
  rfl
 case hp => exact hz9
theorem implChecksumS (s : ByteArray) (hz : s.size ≤ 600) : FnT Tryz.prog 34 [.one (.v (.string s))] (.a (.one (.v (.int .i64 (chkS s.data.toList))))) := by
 have h := implChecksum s.data.toList (by rw [← sz_len]; omega)
 rwa [bs_of] at h
theorem specChecksumS (s : ByteArray) (hz : s.size ≤ 600) : FnT Tryz.prog 35 [.one (.v (.string s))] (.a (.one (.v (.int .i64 (chkS s.data.toList))))) := by
 have h := specChecksum s.data.toList (by rw [← sz_len]; omega)
 rwa [bs_of] at h
theorem implScanLogT (s : ByteArray) (k : Nat) (hz : s.size ≤ 600) : FnT Tryz.prog 31 [.one (.v (.string (s.extract 0 k)))] (.tup [.one (.sl 1 ((scanL (s.data.toList.take k)).1.map cInt)), .one (.sl 1 ((scanL (s.data.toList.take k)).2.1.map cBatch)), .one (.v (.int .i64 ((scanL (s.data.toList.take k)).2.2 : Nat)))]) := by
 rw [ext_bs]
 exact implScanLogL _ (by have := sz_len s; rw [List.length_take]; omega)
theorem lawssameIntsT (l r : List Int) (m : Nat) : FnT Tryz.prog 33 [.one (.sl 1 (l.map cInt)), .one (.sl 1 (((r.map cInt).take m).drop 0))] (.a (.one (.v (.bool (decide (l = r.take m)))))) := by
 have h := lawssameInts l (r.take m)
 rwa [List.map_take] at h
end Go.Proofs.YtbkhopfpejhnlaaGreatDoor
