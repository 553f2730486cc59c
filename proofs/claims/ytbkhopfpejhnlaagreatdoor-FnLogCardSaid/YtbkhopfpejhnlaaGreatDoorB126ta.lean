import Derived.Test.YtbkhopfpejhnlaaGreatDoorDraw2ta
import Derived.Test.YtbkhopfpejhnlaaGreatDoorOpenBta
set_option linter.unusedVariables false
set_option linter.unusedSimpArgs false
set_option maxHeartbeats 1000000
set_option maxRecDepth 100000
namespace Go.Q
open Go.RowKit Go.D
theorem C.bytes {w : World} {l : List Int} {v : Value} {F : List Nat} (h : C false w (.sl 1 (byR l)) v F) : ∃ a len cap, v = .slice a len cap ∧ l.length = len ∧ len ≤ 9223372036854775807 ∧ ∀ i, i < len → ∃ b off x, a = some ⟨b, off, none⟩ ∧ b ∈ F ∧ l[i]? = some x ∧ w.cell? ⟨b, off + i, none⟩ = some (.int .u8 x) := by
 simp only [C] at h
 obtain ⟨a, len, cap, rfl, h2, h3, h4, h5⟩ := h
 rw [byR, List.length_map] at h2
 refine ⟨a, len, cap, rfl, h2, by unfold maxLen at h4; omega, fun i hi => ?_⟩
 rcases h5 with ⟨h5, _⟩ | ⟨b, off, G, rfl, rfl, h7, h8, h9⟩
 · omega
 · obtain ⟨s1, xs, s2, s3, s4⟩ := h9.flat
   have hf : (byR l).flatten = l.map fun x => T.v (.int .u8 x) := by
    unfold byR
    clear h9 s1 s2 s3 h2
    induction l with
    | nil => rfl
    | cons x l ih => rw [List.map_cons, List.flatten_cons, ih]; rfl
   rw [hf] at s2
   have key : ∀ (m : List Int) {cs : List Value} {G : List Nat}, Cs false w (m.map fun x => T.v (.int .u8 x)) cs G → cs = m.map fun x => .int .u8 x := by
    intro m
    induction m with
    | nil => intro cs G h; unfold Cs at h; exact h.1
    | cons x m ih => intro cs G h; rw [List.map_cons] at h; unfold Cs at h; obtain ⟨c, cr, G1, G2, rfl, g1, g2, rfl⟩ := h; rw [ih g2]; unfold C at g1; rw [g1.1]; rfl
   have e := key l s2
   subst e
   exact ⟨b, off, l[i]'(by omega), rfl, by simp, List.getElem?_eq_getElem _, s4 i _ (by simp [List.getElem?_eq_getElem, h2, hi])⟩
theorem Chg.setCell (w : World) (p : Addr) (u : Value) : Chg w (w.setCell p u) [p.block] := ⟨rfl, rfl, rfl, by simp [World.setCell], fun k _ hn => heap_setCell_other w p k u (fun e => hn (by simp [e]))⟩
theorem Chg.more {w w1 w2 : World} {G : List Nat} (h : Chg w w1 G) (h2 : Chg w1 w2 G) : Chg w w2 G := ⟨h2.os.trans h.os, h2.tape.trans h.tape, h2.output.trans h.output, Nat.le_trans h.size h2.size, fun k hk hn => (h2.block k (Nat.lt_of_lt_of_le hk h.size) hn).trans (h.block k hk hn)⟩
theorem cu_end {w w' : World} {gb : Nat} {v : Value} {i z : Int} {t : TypeId} {G : List Nat} {bs : List Int} (hc : Chg w w' [gb]) (hC : C false w (.sl 1 (byR bs)) v G) (hZ : ∀ b ∈ G, b < w.heap.size ∧ b ≠ gb) (hi : 0 ≤ i) (hb : ∀ n ∈ bs, 0 ≤ n ∧ n < 256) (B : Box w' gb [v, .int .i64 i, .int .i64 z] t) : CuOk w' (gb, v) :=
 ⟨⟨i, z, t, G, bs, B, hC.congr fun b hm => hc.block b (hZ b hm).1 (by simpa using (hZ b hm).2), fun b hm => ⟨Nat.lt_of_lt_of_le (hZ b hm).1 hc.size, (hZ b hm).2⟩, hi, hb⟩, ⟨_, t, B⟩⟩
theorem and255 (u : Int) : 0 ≤ bits .and .i64 u 255 ∧ bits .and .i64 u 255 < 256 := by
 have h : bits .and .i64 u 255 = ((BitVec.ofInt 64 u &&& BitVec.ofInt 64 255).toNat : Int) := by
  have hlt : (BitVec.ofInt 64 u &&& BitVec.ofInt 64 255).toNat < 2 ^ 63 := by
   rw [BitVec.toNat_and]
   exact Nat.lt_of_le_of_lt Nat.and_le_right (by decide)
  have hw : ∀ m : Nat, m < 2 ^ 63 → IntKind.wrap .i64 (m : Int) = m := fun m hm => wrap_in ⟨by omega, by omega⟩
  exact hw _ hlt
 rw [h, BitVec.toNat_and]
 have : (BitVec.ofInt 64 u).toNat &&& (BitVec.ofInt 64 255).toNat ≤ 255 := Nat.and_le_right
 omega
end Go.Q
namespace Go.Proofs.YtbkhopfpejhnlaaGreatDoor
open Go.RowKit Go.Q Go.D
set_option maxHeartbeats 1000000 in
theorem specl1New : FnN Tryz.prog 37 := by
 refine ⟨⟨_, Tryz.func37, by kernel_rfl, by kernel_rfl⟩, fun w v F bs hG hC hb => ?_⟩
 obtain ⟨a, len, cap, rfl, n1, n2, c1⟩ := hC.bytes
 clear hC
 go_enter Tryz.func37, Tryz.ntmps37
 go_wp2
 go_loopw [3, 4] (fun h i wr => ∃ (k : Nat) (d : Int), k ≤ len ∧ i = .int .i64 k ∧ h = .int .i64 d ∧ wr = w) (fun _ i _ => len - (intOf i).toNat)
 case atStart => exact ⟨0, _, by omega, rfl, rfl, rfl⟩
 case round =>
  obtain ⟨k, d, hk, rfl, rfl, rfl⟩ := hrel
  by_cases hlt : k < len
  · by_cases hlt' : k < 4000
    · obtain ⟨b, off, x, rfl, _, hx, hc⟩ := c1 k hlt
      have hbx := hb x (List.mem_of_getElem? hx)
      go_wp2
      go_roundw
      case rel => exact ⟨k + 1, _, by omega, by go_num, rfl, trivial⟩
      case measure => simp [intOf]; omega
    · go_wp2
      go_ret
      exact ⟨_, 0, d, _, rfl, Nat.le_refl _, thaw_new, heap_alloc_new _ _, by omega, (Ext.refl _).alloc _⟩
  · go_wp2
    go_ret
    exact ⟨_, 0, d, _, rfl, Nat.le_refl _, thaw_new, heap_alloc_new _ _, by omega, (Ext.refl _).alloc _⟩
set_option maxHeartbeats 1000000 in
theorem specl1Byte : FnD Tryz.prog 97 [] (fun x : Int => 0 ≤ x ∧ x < 256) (fun x => .a (.one (.v (.int .i64 x)))) := by
 refine ⟨⟨_, Tryz.func97, by kernel_rfl, by kernel_rfl⟩, fun w g vs F hG hC hv hgF => ?_⟩
 obtain ⟨rfl, rfl⟩ := hv
 obtain ⟨gb, v⟩ := g
 obtain ⟨⟨i, h, t, G, bs, hcell, hC, hZ, hi, hb⟩, hth⟩ := hC
 simp only at hcell hC hZ hth
 obtain ⟨a, len, cap, rfl, n1, n2, c1⟩ := hC.bytes
 have B0 : Box w gb [.slice a len cap, .int .i64 i, .int .i64 h] t := hcell
 have e0 := B0.at 2 rfl
 have f0 := B0.thaw 2
 show Calls _ _ #[_] _ _
 go_enter Tryz.func97, Tryz.ntmps97
 go_wp2_with fail
 generalize wrap64 (wrap64 (h * 6364136223846793005) + 1442695040888963407) = z
 have B1 := B0.set 2 (.int .i64 z)
 have hz1 : ∀ b, b ≠ gb → (w.setCell ⟨gb, 2, none⟩ (.int .i64 z)).heap[b]? = w.heap[b]? := fun b hb => heap_setCell_other w _ b _ hb
 have hsz : (w.setCell ⟨gb, 2, none⟩ (.int .i64 z)).heap.size = w.heap.size := by simp [World.setCell]
 have hch := Chg.setCell w ⟨gb, 2, none⟩ (.int .i64 z)
 generalize w.setCell ⟨gb, 2, none⟩ (.int .i64 z) = w1 at B1 hz1 hsz hch ⊢
 simp only [List.set_cons_succ, List.set_cons_zero] at B1
 have e3 := Later.cell (B1.at 2 rfl)
 refine wp_region_later (by kernel_rfl) (by kernel_rfl) ?_
 repeat (go_big_quiet_step (fail))
 refine wpQuiet_nil ?_
 rintro _ ⟨y, rfl⟩
 have hX0 := and255 (bits BinOp.xor IntKind.i64 (z / 8589934592) (z / 35184372088832))
 generalize bits BinOp.and IntKind.i64 _ 255 = X at hX0 ⊢
 have B2 := B1.mono y.2
 have x2 := y.2
 generalize y.1 = w2 at B2 x2 ⊢
 clear e3 y
 have e1 := Later.cell (B2.at 0 rfl)
 have e2 := Later.cell (B2.at 1 rfl)
 go_wp2_with fail
 refine wp_region_later (by kernel_rfl) (by kernel_rfl) ?_
 repeat (go_big_quiet_step (fail))
 refine wpQuiet_nil ?_
 rintro _ ⟨y, rfl⟩
 have B3 := B2.mono y.2
 have x3 := x2.trans y.2
 generalize y.1 = w3 at B3 x3 ⊢
 clear e1 e2 y
 by_cases hlt : i < len
 · obtain ⟨k, rfl⟩ : ∃ k : Nat, i = (k : Int) := ⟨i.toNat, by omega⟩
   obtain ⟨b, off, x, rfl, hbG, hbx, hc⟩ := c1 k (by omega)
   have hxb := hb x (List.mem_of_getElem? hbx)
   have hbz := hZ b hbG
   have hc3 : w3.cell? ⟨b, off + k, none⟩ = some (.int .u8 x) := by
    unfold World.cell? at hc ⊢
    rw [x3.block (by rw [hsz]; exact hbz.1), hz1 b hbz.2]
    exact hc
   have e1 := Later.cell (B3.at 0 rfl)
   have e2 := Later.cell (B3.at 1 rfl)
   have e4 := Later.cell hc3
   go_wp2_with fail
   refine wp_region_later (by kernel_rfl) (by kernel_rfl) ?_
   repeat (go_big_quiet_step (fail))
   refine wpQuiet_nil ?_
   rintro _ ⟨y, rfl⟩
   have hX1 := and255 (X + x)
   generalize bits BinOp.and IntKind.i64 _ 255 = X1 at hX1 ⊢
   have B4 := B3.mono y.2
   have x4 := x3.trans y.2
   generalize y.1 = w4 at B4 x4 ⊢
   clear e1 e2 e4 y
   have e1 := B4.at 1 rfl
   have f1 := B4.thaw 1
   go_wp2_with fail
   go_ret
   have B5 := B4.set 1 (.int .i64 ((k : Int) + 1))
   have hch5 : Chg w _ [gb] := (hch.later x4).more (Chg.setCell w4 ⟨gb, 1, none⟩ (.int .i64 ((k : Int) + 1)))
   exact ⟨X1, .int .i64 X1, [], rfl, hX1, by unfold Vr V0r C; exact ⟨rfl, rfl, rfl⟩, List.nodup_nil, by simp, hch5, cu_end hch5 hC hZ (by omega) hb B5⟩
 · go_wp2_with fail
   go_ret
   exact ⟨X, .int .i64 X, [], rfl, hX0, by unfold Vr V0r C; exact ⟨rfl, rfl, rfl⟩, List.nodup_nil, by simp, hch.later x3, cu_end (hch.later x3) hC hZ hi hb B3⟩
end Go.Proofs.YtbkhopfpejhnlaaGreatDoor
set_option maxHeartbeats 1000000
set_option maxRecDepth 100000
namespace Go.Q
open Go.RowKit Go.D
end Go.Q
namespace Go.Proofs.YtbkhopfpejhnlaaGreatDoor
open Go.RowKit Go.Q Go.D
set_option maxRecDepth 100000 in
theorem specl1Below (n : Int) : FnD Tryz.prog 74 [.one (.v (.int .i64 n))] (fun x : Int => (n ≤ 0 ∧ x = 0) ∨ (0 ≤ x ∧ x < n)) (fun x => .a (.one (.v (.int .i64 x)))) := by
 refine FnD.walk Tryz.func74 U (by kernel_rfl) Tryz.ntmps74 U (fun g => rfl) fun w0 g => ?_
 refine AW.sr ?_
 refine AWl.ac ?_
 refine AWl.nil (AW.seq ?_)
 refine AW.sr ?_
 refine AWl.mv ?_
 refine AWl.p (R_le U (.no U) U (.tm U) (.const U)) U ?_
 refine AWl.nil ?_
 refine AW.cond (.tm U) (fun h10 => ?_) (fun h10 => ?_)
 · skip
   try simp at h10
   refine AW.sr ?_
   refine AWl.ac ?_
   refine AWl.nil (AW.ret ?_)
   apply DRes.mk (x := 0) rfl
   case h =>
    refine Res.one U (.tmp U .nil) U ?_
    rfl
   case hp => exact .inl ⟨by omega, rfl⟩
 · skip
   try simp at h10
   refine AW.skip ?_
   refine AW.seq ?_
   refine AW.sr ?_
   refine AWl.mv ?_
   refine AWl.p (R_le U (.no U) U (.tm U) (.const U)) U ?_
   refine AWl.nil ?_
   refine AW.cond (.tm U) (fun h12 => ?_) (fun h12 => ?_)
   · skip
     try simp at h12
     refine AW.sr ?_
     refine AWl.mv ?_
     refine AWl.opE (R_calld 1400 (specl1Byte) U U U (.tm U) U U .nil (fun _ => rfl) (fun _ => rfl)) ?_
     rintro _ ⟨z14, hz14, rfl⟩
     try dsimp only at hz14
     refine AWl.mv ?_
     refine AWl.p (R_rem U (.no U) U (.tm U) (.tm U) (fun _ => by omega)) U ?_
     refine AWl.av ?_
     refine AWl.nil (AW.ret ?_)
     apply DRes.mk rfl
     case h =>
      refine Res.one U (.tmp U .nil) U ?_
      rfl
     case hp => exact .inr ⟨Int.emod_nonneg _ (by omega), Int.emod_lt_of_pos _ (by omega)⟩
   · skip
     try simp at h12
     refine AW.skip ?_
     refine AW.sr ?_
     refine AWl.mv ?_
     refine AWl.opE (R_calld 1800 (specl1Byte) U U U (.tm U) U U .nil (fun _ => rfl) (fun _ => rfl)) ?_
     rintro _ ⟨z18, hz18, rfl⟩
     try dsimp only at hz18
     refine AWl.av ?_
     refine AWl.nil (AW.seq ?_)
     refine AW.le (σ' := ⟨_, [(0, _), (1, _), (4, _), (5, _)], [(888888, _)]⟩) (Le.sub0 U ⟨U, U, U, U, Y⟩ ⟨U, Y⟩) ?_
     refine AW.region ?_
     refine AWl.mv ?_
     refine AWl.opE (R_calld 2000 (specl1Byte) U U U (.tm U) U U .nil (fun _ => rfl) (fun _ => rfl)) ?_
     rintro _ ⟨z20, hz20, rfl⟩
     try dsimp only at hz20
     refine AWl.av ?_
     refine AWl.nil (AW.sr ?_)
     refine AWl.mv ?_
     refine AWl.opE (R_calld 2200 (specl1Byte) U U U (.tm U) U U .nil (fun _ => rfl) (fun _ => rfl)) ?_
     rintro _ ⟨z22, hz22, rfl⟩
     try dsimp only at hz22
     refine AWl.av ?_
     refine AWl.nil (AW.sr ?_)
     refine AWl.mv ?_
     refine AWl.opE (R_calld 2400 (specl1Byte) U U U (.tm U) U U .nil (fun _ => rfl) (fun _ => rfl)) ?_
     rintro _ ⟨z24, hz24, rfl⟩
     try dsimp only at hz24
     refine AWl.av ?_
     refine AWl.nil (AW.seq ?_)
     refine AW.le (σ' := ⟨_, [(0, _), (1, _), (4, _), (5, _), (6, _), (7, _), (8, _)], [(888888, _)]⟩) (Le.sub0 U ⟨U, U, U, U, U, U, U, Y⟩ ⟨U, Y⟩) ?_
     refine AW.region ?_
     refine AWl.mv ?_
     refine AWl.p (R_mul U (.no U) U (.tm U) (.const U) (fun _ => by omega)) U ?_
     refine AWl.mv ?_
     refine AWl.p (R_mul U (.no U) U (.tm U) (.const U) (fun _ => by omega)) U ?_
     refine AWl.p (R_add U (.no U) U (.tm U) (.tm U) (fun _ => by omega)) U ?_
     refine AWl.mv ?_
     refine AWl.p (R_mul U (.no U) U (.tm U) (.const U) (fun _ => by omega)) U ?_
     refine AWl.p (R_add U (.no U) U (.tm U) (.tm U) (fun _ => by omega)) U ?_
     refine AWl.mv ?_
     refine AWl.p (R_add U (.no U) U (.tm U) (.tm U) (fun _ => by omega)) U ?_
     refine AWl.mv ?_
     refine AWl.p (R_rem U (.no U) U (.tm U) (.tm U) (fun _ => by omega)) U ?_
     refine AWl.av ?_
     refine AWl.nil (AW.ret ?_)
     apply DRes.mk rfl
     case h =>
      refine Res.one U (.tmp U .nil) U ?_
      rfl
     case hp => exact .inr ⟨Int.emod_nonneg _ (by omega), Int.emod_lt_of_pos _ (by omega)⟩
set_option maxRecDepth 100000 in
theorem specl1Once (n : Int) : FnD Tryz.prog 48 [.one (.v (.int .i64 n))] (fun _ : Bool => True) (fun x => .a (.one (.v (.bool x)))) := by
 refine FnD.walk Tryz.func48 U (by kernel_rfl) Tryz.ntmps48 U (fun g => rfl) fun w0 g => ?_
 refine AW.sr ?_
 refine AWl.ac ?_
 refine AWl.nil (AW.sr ?_)
 refine AWl.mv ?_
 refine AWl.mv ?_
 refine AWl.opE (R_calld 700 (specl1Below n) U U U (.tm U) U U (.cons (.tm U) U .nil) (fun _ => rfl) (fun _ => rfl)) ?_
 rintro _ ⟨z7, hz7, rfl⟩
 try dsimp only at hz7
 refine AWl.p (R_eq U (.no U) U (.tm U) (.const U)) U ?_
 refine AWl.av ?_
 refine AWl.nil (AW.ret ?_)
 apply DRes.mk rfl
 case h =>
  refine Res.one U (.tmp U .nil) U ?_
  rfl
 case hp => exact trivial
set_option maxRecDepth 100000 in
theorem specl1PickInt (l : List Int) (hl : 0 < l.length) : FnD Tryz.prog 57 [.one (.sl 1 (l.map cInt))] (fun x : Int => x ∈ l) (fun x => .a (.one (.v (.int .i64 x)))) := by
 refine FnD.walk Tryz.func57 U (by kernel_rfl) Tryz.ntmps57 U (fun g => rfl) fun w0 g => ?_
 refine AW.sr ?_
 refine AWl.ac ?_
 refine AWl.nil (AW.sr ?_)
 refine AWl.mv ?_
 refine AWl.mv ?_
 refine AWl.mv ?_
 refine AWl.p ((by first | exact R_lenm U (.no U) U (.tm U) (by first | exact .t | exact .rf U | exact .vw | exact .nil) Tryz.underlying55 | exact R_len U (.no U) U (.tm U) (by first | exact .t | exact .rf U | exact .vw | exact .nil) Tryz.underlying55)) U ?_
 refine AWl.opE (R_calld 900 (specl1Below _) U U U (.tm U) U U (.cons (.tm U) U .nil) (fun _ => rfl) (fun _ => rfl)) ?_
 rintro _ ⟨z9, hz9, rfl⟩
 try dsimp only at hz9
 refine AWl.p ((by first | exact R_indexAddr U (.no U) U (.tm U) (.tm U) Tryz.underlying55 ty3 (fun _ => ⟨by simp at hz9; omega, map_get (List.getElem?_eq_getElem (i := z9.toNat) (show z9.toNat < l.length by simp at hz9; omega))⟩) | exact R_indexAddr_vw U (.no U) U (.tm U) (.tm U) Tryz.underlying55 ty3 (fun _ => ⟨by simp at hz9; omega, map_get (List.getElem?_eq_getElem (i := z9.toNat) (show z9.toNat < l.length by simp at hz9; omega))⟩) | exact R_indexAddr_rf U (.no U) U (.tm U) U (.tm U) Tryz.underlying55 ty3 (fun _ => ⟨by simp at hz9; omega, map_get (List.getElem?_eq_getElem (i := z9.toNat) (show z9.toNat < l.length by simp at hz9; omega))⟩))) U ?_
 refine AWl.p ((by first | exact R_load U (.no U) U (.tm U) ty3 U U | exact R_load_pp U (.no U) U (.tm U) U ty3 U U | exact R_load_vw U (.no U) U (.tm U) ty3 U U | exact R_load_pr U (.no U) U (.tm U) U (by first | assumption | exact map_get (by assumption)) ty3 U U)) U ?_
 refine AWl.av ?_
 refine AWl.nil (AW.ret ?_)
 apply DRes.mk rfl
 case h =>
  refine Res.one U (.tmp U .nil) U ?_
  rfl
 case hp => exact List.getElem_mem _
end Go.Proofs.YtbkhopfpejhnlaaGreatDoor
