import Derived.Test.YtbkhopfpejhnlaaGreatB78rc
import Derived.Test.YtbkhopfpejhnlaaGreatDraw5rc
import Derived.Test.YtbkhopfpejhnlaaGreatAbsZrc
import Derived.Test.YtbkhopfpejhnlaaGreatB34rc
import Derived.Shelf.Strings.SlTrimAscii
set_option linter.unusedVariables false
set_option linter.unusedSimpArgs false
set_option maxHeartbeats 1000000
set_option maxRecDepth 100000
namespace Go.Q
open Go.D
theorem rdT_let {rest : List UInt8 → TToken} {s : List UInt8} (n : s ≠ [33] ∧ s ≠ [40, 41] ∧ s ≠ [46] ∧ s ≠ [124] ∧ s ≠ [42]) (h : (letP s).2 = true) : rdT rest s = ⟨3, (letP s).1, 0, 0⟩ := by
 obtain ⟨n1, n2, n3, n4, n5⟩ := n
 unfold rdT
 rw [if_neg n1, if_neg n2, if_neg n3, if_neg n4, if_neg n5, if_pos h]
theorem rdT_rest {rest : List UInt8 → TToken} {s : List UInt8} (n : s ≠ [33] ∧ s ≠ [40, 41] ∧ s ≠ [46] ∧ s ≠ [124] ∧ s ≠ [42]) (h : (letP s).2 = false) : rdT rest s = rest s := by
 obtain ⟨n1, n2, n3, n4, n5⟩ := n
 unfold rdT
 rw [if_neg n1, if_neg n2, if_neg n3, if_neg n4, if_neg n5, if_neg (by rw [h]; decide)]
theorem ar_tk {k : Int} (h : k = 1 ∨ k = 2 ∨ k = 4 ∨ k = 5 ∨ k = 6) : 0 ≤ arity (tk0 k) := by
 rcases h with rfl | rfl | rfl | rfl | rfl <;> decide
theorem rd_found {rest : List UInt8 → TToken} {s : List UInt8} {k : Int} (hk : k = 1 ∨ k = 2 ∨ k = 4 ∨ k = 5 ∨ k = 6) (h : tokS (tk0 k) = s) : rdT rest s = tk0 k := by
 rcases hk with rfl | rfl | rfl | rfl | rfl <;> subst h <;> rfl
theorem ne_found {s : List UInt8} (h : ∀ j : Nat, 1 ≤ j → j < 7 → j ≠ 3 → tokS (tk0 (j : Nat)) ≠ s) : s ≠ [33] ∧ s ≠ [40, 41] ∧ s ≠ [46] ∧ s ≠ [124] ∧ s ≠ [42] :=
 ⟨fun e => h 1 (by decide) (by decide) (by decide) (by rw [e]; rfl), fun e => h 2 (by decide) (by decide) (by decide) (by rw [e]; rfl), fun e => h 4 (by decide) (by decide) (by decide) (by rw [e]; rfl), fun e => h 5 (by decide) (by decide) (by decide) (by rw [e]; rfl), fun e => h 6 (by decide) (by decide) (by decide) (by rw [e]; rfl)⟩
theorem five_bytes {x : List UInt8} (h : x.length = 5) : ∃ a b c d e, x = [a, b, c, d, e] := by
 match x, h with
 | [a, b, c, d, e], _ => exact ⟨a, b, c, d, e, rfl⟩
theorem brS_yes {x0 x1 x2 x3 x4 : UInt8} (h0 : (x0.toNat : Int) = 123) (h2 : (x2.toNat : Int) = 44) (h4 : (x4.toNat : Int) = 125) : brS [x0, x1, x2, x3, x4] = ⟨7, 0, (x1.toNat : Int) - 48, (x3.toNat : Int) - 48⟩ := by
 have e0 : x0 = 123 := UInt8.toNat_inj.1 (show x0.toNat = 123 by omega)
 have e2 : x2 = 44 := UInt8.toNat_inj.1 (show x2.toNat = 44 by omega)
 have e4 : x4 = 125 := UInt8.toNat_inj.1 (show x4.toNat = 125 by omega)
 subst e0 e2 e4
 rfl
theorem brS_no {s : List UInt8} {b0 b2 b4 : UInt8} (hb0 : s.length = 5 → s[0]? = some b0) (hb2 : s.length = 5 → s[2]? = some b2) (hb4 : s.length = 5 → s[4]? = some b4) (h : ¬ (((s.length = 5 ∧ (b0.toNat : Int) = 123) ∧ (b2.toNat : Int) = 44) ∧ (b4.toNat : Int) = 125)) : brS s = tk0 0 := by
 unfold brS
 rw [if_neg]
 rintro ⟨h5, h0, h2, h4⟩
 rw [hb0 h5] at h0
 rw [hb2 h5] at h2
 rw [hb4 h5] at h4
 refine h ⟨⟨⟨h5, ?_⟩, ?_⟩, ?_⟩
 · rw [Option.some.inj h0]; rfl
 · rw [Option.some.inj h2]; rfl
 · rw [Option.some.inj h4]; rfl
end Go.Q
namespace Go.Proofs.YtbkhopfpejhnlaaGreat
open Go.RowKit Go.Q Go.D Go.Shelf
theorem specl8Read (s : List UInt8) : FnT Tryz.prog 135 [.one (.v (.string (bs s)))] (.a (.agg (cToken (rdT brS s)))) := by
 obtain ⟨b0, hb0⟩ : ∃ b, s.length = 5 → s[0]? = some b := ⟨s[0]?.getD 0, fun h => by rw [List.getElem?_eq_getElem (by omega)]; rfl⟩
 obtain ⟨b2, hb2⟩ : ∃ b, s.length = 5 → s[2]? = some b := ⟨s[2]?.getD 0, fun h => by rw [List.getElem?_eq_getElem (by omega)]; rfl⟩
 obtain ⟨b4, hb4⟩ : ∃ b, s.length = 5 → s[4]? = some b := ⟨s[4]?.getD 0, fun h => by rw [List.getElem?_eq_getElem (by omega)]; rfl⟩
 refine FnT.walk Tryz.func135 U (by kernel_rfl) Tryz.ntmps135 U fun hlen w0 => ?_
 try simp [cPair, cToken, cExpr, cEdge, cGraph] at hlen
 have hsz := bs_size s
 refine AW.sr ?_
 refine AWl.add (R_alloc 2 U U U in100 U U U) U ?_
 refine AWl.nil (AW.seq ?_)
 refine AW.sr ?_
 refine AWl.ac ?_
 refine AWl.nil (AW.block ?_)
 refine AW.loop1 (fun (k : Nat) => ((1 ≤ k ∧ k ≤ 7) ∧ ∀ j : Nat, 1 ≤ j → j < k → j ≠ 3 → tokS (tk0 (j : Nat)) ≠ s) ∧ True) (fun (k : Nat) => ⟨_, [(3, (true, .a (.one (.t (.v (.int .i64 (k : Nat))))))), (0, _), (2, _)], [(2, .box [.t (.v (.int .i64 0)), .t (.v (.int .i64 0)), .t (.v (.int .i64 0)), .t (.v (.int .i64 0))])]⟩) (fun (k : Nat) => 7 - k) (1) ⟨⟨⟨by omega, by omega⟩, fun j h1 h2 => by omega⟩, Y⟩ (Le.sub0 U ⟨U, U, U, Y⟩ ⟨U, Y⟩) ?_
 rintro k ⟨hk, he⟩
 refine AW.seq ?_
 refine AW.sr ?_
 refine AWl.mv ?_
 refine AWl.p (R_le U (.no U) U (.tm U) (.const U)) U ?_
 refine AWl.nil ?_
 refine AW.cond (.tm U) (fun h7 => ?_) (fun h7 => ?_)
 · skip
   try simp at h7
   refine AW.skip ?_
   refine AW.seq ?_
   refine AW.block ?_
   refine AW.sr ?_
   refine AWl.mv ?_
   refine AWl.p (R_ne U (.no U) U (.tm U) (.const U)) U ?_
   refine AWl.mv ?_
   refine AWl.p (R_move U (by exact .yes1 U U U U) U (.tmp U (by exact fun _ => rfl))) U ?_
   refine AWl.p (R_grd (by exact .yes1 U U U U) U fun hq => R_build (ps := [(0, .tmp 13)]) U U U in100 U U st100 (.cons (.tmp U (by exact fun _ => hq)) U U fp100_0 .nil) U) U ?_
   refine AWl.p (R_callq U (by exact .yes1 U U U U) U (.cons (.tmp U (by exact id)) U .nil) fun hq => FnT.fr (specl8Token (tk0 (k : Int)) (ar_tk (by simp at hq; omega)))) U ?_
   refine AWl.p (R_move U (by exact .yes1 U U U U) U (.tmp U (by exact fun _ => rfl))) U ?_
   refine AWl.p (R_eqstr U (by exact .yes1 U U U U) U (.tmp U (by exact id)) (.tmp U (by exact id))) U ?_
   refine AWl.p (R_and U (.no U) U (.tm U) (.tmp U (by exact id))) U ?_
   refine AWl.nil ?_
   refine AW.cond (.tm U) (fun h18 => ?_) (fun h18 => ?_)
   · skip
     try simp at h18
     refine AW.seq ?_
     refine AW.le (σ' := ⟨_, [(0, _), (2, _), (3, _)], [(2, _)]⟩) (Le.sub0 U ⟨U, U, U, Y⟩ ⟨U, Y⟩) ?_
     refine AW.region ?_
     refine AWl.mv ?_
     refine AWl.p (R_build (ps := [(0, .tmp 19)]) U U U in100 U U st100 (.cons (.tm U) U U fp100_0 .nil) U) U ?_
     refine AWl.chgb (R_store_pb U U U (.tm U) (.tm U) U ty100 U U U (by kernel_rfl) U) ?_
     refine AWl.nil (AW.ret ?_)
     refine Res.one U (.cell U U ty100 U U .nil) U ?_
     rw [rd_found (k := (k : Int)) (by omega) (bs_inj h18.2)]; rfl
   · skip
     try simp at h18
     refine AW.skip ?_
     refine AW.le (σ' := ⟨_, [(0, _), (2, _), (3, _)], [(2, _)]⟩) (Le.sub0 U ⟨U, U, U, Y⟩ ⟨U, Y⟩) ?_
     refine AW.region ?_
     refine AWl.mv ?_
     refine AWl.p (R_add U (.no U) U (.tm U) (.const U) (fun _ => by omega)) U ?_
     refine AWl.av ?_
     refine AWl.nil ?_
     repeat (with_reducible refine BlockQ.nor ?_)
     refine Round1.next (k + 1) ⟨⟨⟨by omega, by omega⟩, fun j h1 h2 h3 => (by by_cases e : j = k; (subst e; exact fun e2 => h18 (by omega) (by rw [e2])); exact hk.2 j h1 (by omega) h3)⟩, Y⟩ (by omega) (Le.sub0 rfl ⟨rfl, rfl, rfl, Y⟩ ⟨(by rfl), Y⟩)
 · skip
   try simp at h7
   refine AW.exit ?_
   refine AW.sr ?_
   refine AWl.mv ?_
   refine AWl.p (R_callz (FnT.fr (specParseLetter s)) U (.no U) U (.cons (.tm U) U .nil)) U ?_
   refine AWl.p (R_movet U (.no U) U U fun _ => rfl) U ?_
   refine AWl.p (R_extract U (.no U) U U (fun _ => rfl) U) U ?_
   refine AWl.p (R_extract U (.no U) U U (fun _ => rfl) U) U ?_
   refine AWl.av ?_
   refine AWl.av ?_
   refine AWl.nil (AW.seq ?_)
   refine AW.seq ?_
   refine AW.le (σ' := ⟨_, [(0, _), (2, _), (3, _), (4, _), (5, _)], [(2, _)]⟩) (Le.sub0 U ⟨U, U, U, U, U, Y⟩ ⟨U, Y⟩) ?_
   refine AW.region ?_
   refine AWl.mv ?_
   refine AWl.nil ?_
   refine AW.cond (.tm U) (fun h26 => ?_) (fun h26 => ?_)
   · skip
     try simp at h26
     have hne := ne_found fun j h1 h2 h3 => hk.2 j h1 (by omega) h3
     refine AW.sr ?_
     refine AWl.mv ?_
     refine AWl.p (R_build (ps := [(0, .const (.int .i64 (3))), (1, .tmp 27)]) U U U in100 U U st100 (.cons (.const U) U U fp100_0 (.cons (.tm U) U U fp100_1 .nil)) U) U ?_
     refine AWl.chgb (R_store_pb U U U (.tm U) (.tm U) U ty100 U U U (by kernel_rfl) U) ?_
     refine AWl.nil (AW.ret ?_)
     refine Res.one U (.cell U U ty100 U U .nil) U ?_
     rw [rdT_let hne h26]; rfl
   · skip
     try simp at h26
     have hne := ne_found fun j h1 h2 h3 => hk.2 j h1 (by omega) h3
     refine AW.skip ?_
     refine AW.seq ?_
     refine AW.sr ?_
     refine AWl.mv ?_
     refine AWl.p (R_len_s U (.no U) U (.tm U) Tryz.underlying9) U ?_
     refine AWl.p (R_eq U (.no U) U (.tm U) (.const U)) U ?_
     refine AWl.mv ?_
     refine AWl.p (R_move U (by exact .yes1 U U U U) U (.tmp U (by exact fun _ => rfl))) U ?_
     refine AWl.p (R_strIndex U (by exact .yes1 U U U U) U (.tmp U (by exact id)) (.const U) Tryz.underlying9 (fun hq => ⟨by omega, by rw [bs_get]; exact hb0 (by simp at hq; omega)⟩)) U ?_
     refine AWl.p (R_eq U (by exact .yes1 U U U U) U (.tmp U (by exact id)) (.const U)) U ?_
     refine AWl.p (R_and U (.no U) U (.tm U) (.tmp U (by exact id))) U ?_
     refine AWl.mv ?_
     refine AWl.p (R_move U (by exact .yes1 U U U U) U (.tmp U (by exact fun _ => rfl))) U ?_
     refine AWl.p (R_strIndex U (by exact .yes1 U U U U) U (.tmp U (by exact id)) (.const U) Tryz.underlying9 (fun hq => ⟨by omega, by rw [bs_get]; exact hb2 (by simp at hq; omega)⟩)) U ?_
     refine AWl.p (R_eq U (by exact .yes1 U U U U) U (.tmp U (by exact id)) (.const U)) U ?_
     refine AWl.p (R_and U (.no U) U (.tm U) (.tmp U (by exact id))) U ?_
     refine AWl.mv ?_
     refine AWl.p (R_move U (by exact .yes1 U U U U) U (.tmp U (by exact fun _ => rfl))) U ?_
     refine AWl.p (R_strIndex U (by exact .yes1 U U U U) U (.tmp U (by exact id)) (.const U) Tryz.underlying9 (fun hq => ⟨by omega, by rw [bs_get]; exact hb4 (by simp at hq; omega)⟩)) U ?_
     refine AWl.p (R_eq U (by exact .yes1 U U U U) U (.tmp U (by exact id)) (.const U)) U ?_
     refine AWl.p (R_and U (.no U) U (.tm U) (.tmp U (by exact id))) U ?_
     refine AWl.nil ?_
     refine AW.cond (.tm U) (fun h46 => ?_) (fun h46 => ?_)
     · skip
       try simp at h46
       obtain ⟨x0, x1, x2, x3, x4, hx⟩ := five_bytes (x := s) (by omega)
       have hx1 : x1.toNat < 256 := x1.toNat_lt
       have hx3 : x3.toNat < 256 := x3.toNat_lt
       have e0 : b0 = x0 := by (have := hb0 (by rw [hx]; rfl); rw [hx] at this; exact (Option.some.inj this).symm)
       have e2 : b2 = x2 := by (have := hb2 (by rw [hx]; rfl); rw [hx] at this; exact (Option.some.inj this).symm)
       have e4 : b4 = x4 := by (have := hb4 (by rw [hx]; rfl); rw [hx] at this; exact (Option.some.inj this).symm)
       refine AW.seq ?_
       refine AW.le (σ' := ⟨_, [(0, _), (2, _), (3, _), (4, _), (5, _)], [(2, _)]⟩) (Le.sub0 U ⟨U, U, U, U, U, Y⟩ ⟨U, Y⟩) ?_
       refine AW.drawn 9 (nthB [[], [0], [0, 1], [0, 1, 2], [], [4], [4, 5], [4, 5, 6], [0, 1, 2, 3, 4, 5, 6, 7]]) (by kernel_rfl) (by kernel_rfl) (by kernel_rfl) ?_
       refine DrawC.step U U U (Loc.of U fun σ' hs => R_move U (.no U) (hd_sup hs U) (.tm (hs.slots _ _ U))) ?_
       refine DrawC.step U U U (Loc.of U fun σ' hs => R_strIndex U (.no U) (hd_sup hs U) (.tm (hs.slots _ _ U)) (.const U) Tryz.underlying9 (fun _ => ⟨by omega, by rw [bs_get, hx]; rfl⟩)) ?_
       refine DrawC.step U U U (Loc.of U fun σ' hs => R_conv U (.no U) (hd_sup hs U) (.tm (hs.slots _ _ U)) (by rw [Tryz.underlying5]; rfl) Tryz.underlying3 (fun _ => (show IntKind.i64.wrap (x1.toNat : Int) = (x1.toNat : Int) from wrapI (by omega)))) ?_
       refine DrawC.step U U U (Loc.of U fun σ' hs => R_sub U (.no U) (hd_sup hs U) (.tm (hs.slots _ _ U)) (.const U) (fun _ => by omega)) ?_
       refine DrawC.step U U U (Loc.of U fun σ' hs => R_move U (.no U) (hd_sup hs U) (.tm (hs.slots _ _ U))) ?_
       refine DrawC.step U U U (Loc.of U fun σ' hs => R_strIndex U (.no U) (hd_sup hs U) (.tm (hs.slots _ _ U)) (.const U) Tryz.underlying9 (fun _ => ⟨by omega, by rw [bs_get, hx]; rfl⟩)) ?_
       refine DrawC.step U U U (Loc.of U fun σ' hs => R_conv U (.no U) (hd_sup hs U) (.tm (hs.slots _ _ U)) (by rw [Tryz.underlying5]; rfl) Tryz.underlying3 (fun _ => (show IntKind.i64.wrap (x3.toNat : Int) = (x3.toNat : Int) from wrapI (by omega)))) ?_
       refine DrawC.step U U U (Loc.of U fun σ' hs => R_sub U (.no U) (hd_sup hs U) (.tm (hs.slots _ _ U)) (.const U) (fun _ => by omega)) ?_
       refine DrawC.step U U U (Loc.of U fun σ' hs => R_build (ps := [(0, .const (.int .i64 (7))), (2, .tmp 50), (3, .tmp 54)]) U U (hd_sup hs U) in100 U U st100 (.cons (.const U) U U fp100_0 (.cons (.tm (hs.slots _ _ U)) U U fp100_2 (.cons (.tm (hs.slots _ _ U)) U U fp100_3 .nil))) U) ?_
       refine DrawC.fin U U ?_
       refine AWl.chgb (R_store_pb U U U (.tm U) (.tm U) U ty100 U U U (by kernel_rfl) U) ?_
       refine AWl.nil (AW.ret ?_)
       refine Res.one U (.cell U U ty100 U U .nil) U ?_
       rw [rdT_rest hne h26, hx, brS_yes (by rw [← e0]; exact h46.1.1.2) (by rw [← e2]; exact h46.1.2) (by rw [← e4]; exact h46.2)]; rfl
     · skip
       try simp at h46
       refine AW.skip ?_
       refine AW.seq ?_
       refine AW.le (σ' := ⟨_, [(0, _), (2, _), (3, _), (4, _), (5, _)], [(2, _)]⟩) (Le.sub0 U ⟨U, U, U, U, U, Y⟩ ⟨U, Y⟩) ?_
       refine AW.region ?_
       refine AWl.p (R_build (ps := []) U U U in100 U U st100 .nil U) U ?_
       refine AWl.chgb (R_store_pb U U U (.tm U) (.tm U) U ty100 U U U (by kernel_rfl) U) ?_
       refine AWl.nil (AW.ret ?_)
       refine Res.one U (.cell U U ty100 U U .nil) U ?_
       rw [rdT_rest hne h26, brS_no hb0 hb2 hb4 (by intro hh; grind)]; rfl
theorem specParseExpr (l : List UInt8) (hz : l.length ≤ 1073741824) : FnT Tryz.prog 122 [.one (.v (.string (bs l)))] (.tup [.agg (cExpr (parseX l).1), .one (.v (.bool (parseX l).2))]) := by
 refine FnT.walk Tryz.func122 U (by kernel_rfl) Tryz.ntmps122 U fun hlen w0 => ?_
 try simp [cPair, cToken, cExpr, cEdge, cGraph] at hlen
 have hsz := bs_size l
 have hcl := splitL_len 32 l
 have hcl2 := List.count_le_length (a := 32) (l := l)
 refine AW.sr ?_
 refine AWl.add (R_alloc 2 U U U in30 U U U) U ?_
 refine AWl.ac ?_
 refine AWl.nil (AW.sr ?_)
 refine AWl.p (R_build (ps := []) U U U in30 U U st30 .nil U) U ?_
 refine AWl.nilA (i := 7) 20001 4 0 U U U ?_
 refine AWl.add (R_alloc 4 U U U in30 U U U) U ?_
 refine AWl.chgb (R_store_pb U U U (.tm U) (.tm U) U ty30 U U U (by kernel_rfl) U) ?_
 refine AWl.nil (AW.sr ?_)
 refine AWl.mv ?_
 refine AWl.p (R_callz (FnT.fr (specl2Cut l 32 hz)) U (.no U) U (.cons (.tm U) U (.cons (.const U) U .nil))) U ?_
 refine AWl.av ?_
 refine AWl.nil (AW.seq ?_)
 refine AW.sr ?_
 refine AWl.ac ?_
 refine AWl.nil (AW.block ?_)
 refine AW.loop1 (fun (k : Nat) => (k ≤ (splitL 32 l).length ∧ k ≤ 25) ∧ True) (fun (k : Nat) => ⟨_, [(6, (true, .a (.one (.t (.v (.int .i64 (k : Nat))))))), (2, _), (3, _), (4, _), (5, _)], [(2, .box [.t (.v (.slice none 0 0))]), (4, .box [.rf 20001]), (20001, .row 4 ((((splitL 32 l).take k).map (rdT brS)).map cToken))]⟩) (fun (k : Nat) => (splitL 32 l).length - k) (0) ⟨⟨Nat.zero_le _, by omega⟩, Y⟩ (Le.sub0 U ⟨U, U, U, U, U, Y⟩ ⟨U, U, U, Y⟩) ?_
 rintro k ⟨hk, he⟩
 refine AW.seq ?_
 refine AW.sr ?_
 refine AWl.mv ?_
 refine AWl.mv ?_
 refine AWl.p (by exact R_lenm U (.no U) U (.tm U) (by exact .t) Tryz.underlying140) U ?_
 refine AWl.p (R_lt U (.no U) U (.tm U) (.tm U)) U ?_
 refine AWl.mv ?_
 refine AWl.p (R_move U (by exact .yes1 U U U U) U (.tmp U (by exact fun _ => rfl))) U ?_
 refine AWl.p (R_le U (by exact .yes1 U U U U) U (.tmp U (by exact id)) (.const U)) U ?_
 refine AWl.p (R_and U (.no U) U (.tm U) (.tmp U (by exact id))) U ?_
 refine AWl.nil ?_
 refine AW.cond (.tm U) (fun h17 => ?_) (fun h17 => ?_)
 · skip
   try simp at h17
   obtain ⟨x, hx⟩ : ∃ ξ, (splitL 32 l)[k]? = some ξ := ⟨_, List.getElem?_eq_getElem (by omega)⟩
   refine AW.skip ?_
   refine AW.seq ?_
   refine AW.block ?_
   refine AW.le (σ' := ⟨_, [(2, _), (3, _), (4, _), (5, _), (6, _)], [(2, _), (4, _), (20001, _)]⟩) (Le.sub0 U ⟨U, U, U, U, U, Y⟩ ⟨U, U, U, Y⟩) ?_
   refine AW.le (σ' := ⟨_, [(2, _), (3, _), (4, _), (5, _), (6, _)], [(2, _), (4, _), (20001, _)]⟩) (Le.sub0 U ⟨U, U, U, U, U, Y⟩ ⟨U, U, U, Y⟩) ?_
   apply AW.drawnH (N := 8) (k := 2) (Hs := [0, 1, 2, 3, 4, 5]) (ms := [[], [6], [6, 7]]) (es := [(0, 6, 1), (1, 7, 2)]) (σ1 := _) (SM := ⟨_, [(2, _), (3, _), (4, _), (5, _), (6, _), (20, _), (21, _), (22, _), (23, _), (24, _), (25, _)], [(2, _), (4, _), (20001, _)]⟩)
   case hm => kernel_rfl
   case hB => kernel_rfl
   case hP => kernel_rfl
   case hL => kernel_rfl
   case hN => rfl
   case hpre =>
    apply PreOk.step (P := Tryz.prog) 0 rfl ((by exact R_fieldAddr_pp rfl (.no rfl) rfl (.tm rfl) fl30_0)) (by exact .pp) rfl rfl rfl
    apply PreOk.step (P := Tryz.prog) 1 rfl ((by exact R_load_pp rfl (.no rfl) rfl (.tm rfl) rfl ty28 rfl rfl)) (by exact HasV.load (x := .tmp 20) (.tm rfl) rfl ty28 rfl rfl) rfl rfl rfl
    apply PreOk.step (P := Tryz.prog) 2 rfl (R_move rfl (.no rfl) rfl (.tm rfl)) (by exact HasV.slot (t := 5) rfl) rfl rfl rfl
    apply PreOk.step (P := Tryz.prog) 3 rfl (R_move rfl (.no rfl) rfl (.tm rfl)) (by exact HasV.slot (t := 6) rfl) rfl rfl rfl
    apply PreOk.step (P := Tryz.prog) 4 rfl ((by exact R_indexAddr rfl (.no rfl) rfl (.tm rfl) (.tm rfl) Tryz.underlying140 ty9 (fun _ => ⟨by omega, (map_get hx)⟩))) (by exact HasV.ix (x := .tmp 22) (.tm rfl) (y := .tmp 23) (.tm rfl) Tryz.underlying140 ty9 (fun _ => ⟨by omega, (map_get hx)⟩)) rfl rfl rfl
    apply PreOk.step (P := Tryz.prog) 5 rfl ((by exact R_load rfl (.no rfl) rfl (.tm rfl) ty9 rfl rfl)) (by exact HasV.ld (x := .tmp 24) (.tm rfl) rfl rfl) rfl rfl rfl
    exact PreOk.nil
   case hS => exact Sup.sub0 rfl ⟨rfl, rfl, rfl, rfl, rfl, rfl, rfl, rfl, rfl, rfl, rfl, Y⟩ ⟨rfl, rfl, rfl, Y⟩
   case hH =>
    refine ⟨⟨_, _, _, rfl, rfl, rfl, fun σ' hs => (by exact R_fieldAddr_pp rfl (.no rfl) (hd_sup hs rfl) (.tm (hs.slots _ _ rfl)) fl30_0)⟩, ?_⟩
    refine ⟨⟨_, _, _, rfl, rfl, rfl, fun σ' hs => (by exact R_load_pp rfl (.no rfl) (hd_sup hs rfl) (.tm (hs.slots _ _ rfl)) (hs.res _ _ rfl) ty28 rfl rfl)⟩, ?_⟩
    refine ⟨⟨_, _, _, rfl, rfl, rfl, fun σ' hs => R_move rfl (.no rfl) (hd_sup hs rfl) (.tm (hs.slots _ _ rfl))⟩, ?_⟩
    refine ⟨⟨_, _, _, rfl, rfl, rfl, fun σ' hs => R_move rfl (.no rfl) (hd_sup hs rfl) (.tm (hs.slots _ _ rfl))⟩, ?_⟩
    refine ⟨⟨_, _, _, rfl, rfl, rfl, fun σ' hs => (by exact R_indexAddr rfl (.no rfl) (hd_sup hs rfl) (.tm (hs.slots _ _ rfl)) (.tm (hs.slots _ _ rfl)) Tryz.underlying140 ty9 (fun _ => ⟨by omega, (map_get hx)⟩))⟩, ?_⟩
    refine ⟨⟨_, _, _, rfl, rfl, rfl, fun σ' hs => (by exact R_load rfl (.no rfl) (hd_sup hs rfl) (.tm (hs.slots _ _ rfl)) ty9 rfl rfl)⟩, ?_⟩
    trivial
   apply Dh.new0 (i := 6)
   case ha | ho | hb => rfl
   case hE =>
    intro w9  hp
    obtain _ := hp
    refine AWl.p (R_callz (FnT.fr (specl8Read x)) U (.no U) U (.cons (.tm U) U .nil)) U ?_
    refine AWl.nil ?_
    exact EndQ.eq (Le.sub0 (σ' := ⟨_, [(2, _), (3, _), (4, _), (5, _), (6, _), (20, _), (21, _), (22, _), (23, _), (24, _), (25, _), (26, _)], [(2, _), (4, _), (20001, _)]⟩) U ⟨U, U, U, U, U, U, U, U, U, U, U, U, Y⟩ ⟨U, U, U, Y⟩) U
   case hS => intros; exact Sup.sub0 rfl ⟨rfl, rfl, rfl, rfl, rfl, rfl, rfl, rfl, rfl, rfl, rfl, Y⟩ ⟨rfl, rfl, rfl, Y⟩
   apply Dh.new0 (i := 7)
   case ha | ho | hb => rfl
   case hE =>
    intro w9  hp
    obtain _ := hp
    refine AWl.absadd (R_list (xs := [.tmp 26]) 27 U U U (.cons (.tm U) U U .nil) Tryz.underlying28 in100 U U U U) U ?_
    refine AWl.nil ?_
    exact EndQ.eq (Le.sub0 (σ' := ⟨_, [(2, _), (3, _), (4, _), (5, _), (6, _), (20, _), (21, _), (22, _), (23, _), (24, _), (25, _), (27, _)], [(2, _), (4, _), (20001, _), (27, _)]⟩) U ⟨U, U, U, U, U, U, U, U, U, U, U, U, Y⟩ ⟨U, U, U, U, Y⟩) U
   case hS => intros; exact Sup.sub0 rfl ⟨rfl, rfl, rfl, rfl, rfl, rfl, rfl, rfl, rfl, rfl, rfl, Y⟩ ⟨rfl, rfl, rfl, Y⟩
   refine Dh.fin0 (k := 2) rfl ?_
   intro  hp
   obtain _ := hp
   refine AWl.chgput (R_append U U U (.tm U) U (.tm U) (by exact .rf U) (by rfl) Tryz.underlying28 in100 U (by (simp [chunk]; omega)) (by (unfold maxLen; simp [chunk]; omega))) U ?_
   refine AWl.le (σ' := ⟨_, [(2, _), (3, _), (4, _), (5, _), (6, _), (28, _)], [(2, _), (4, _), (20001, _), (27, _)]⟩) (Le.sub0 U ⟨U, U, U, U, U, U, Y⟩ ⟨U, U, U, U, Y⟩) ?_
   refine AWl.p (by exact R_fieldAddr_pp U (.no U) U (.tm U) fl30_0) U ?_
   refine AWl.chgb (R_store_pb U U U (.tm U) (.tm U) U ty28 U U U (by kernel_rfl) U) ?_
   refine AWl.nil (AW.region ?_)
   refine AWl.mv ?_
   refine AWl.p (R_add U (.no U) U (.tm U) (.const U) (fun _ => by omega)) U ?_
   refine AWl.av ?_
   refine AWl.nil ?_
   repeat (with_reducible refine BlockQ.nor ?_)
   refine Round1.next (k + 1) ⟨⟨by omega, by omega⟩, Y⟩ (by omega) (Le.sub0 rfl ⟨rfl, rfl, rfl, rfl, rfl, Y⟩ ⟨(by rfl), (by rfl), (by refine congrArg (fun r => some (R.row 4 r)) ?_; rw [take_at hx]; simp [chunk, cToken]; done), Y⟩)
 · skip
   try simp at h17
   refine AW.exit ?_
   refine AW.seq ?_
   refine AW.seq ?_
   refine AW.le (σ' := ⟨_, [(2, _), (3, _), (4, _), (5, _), (6, _)], [(2, _), (4, _), (20001, _)]⟩) (Le.sub0 U ⟨U, U, U, U, U, Y⟩ ⟨U, U, U, Y⟩) ?_
   refine AW.region ?_
   refine AWl.p (by exact R_load_pp U (.no U) U (.tm U) U ty30 U U) U ?_
   refine AWl.p (R_callz (FnT.fr (specIsValidExpr ⟨((splitL 32 l).take k).map (rdT brS)⟩)) U (.no U) U (.cons (.tm U) U .nil)) U ?_
   refine AWl.p (R_not U (.no U) U (.tm U)) U ?_
   refine AWl.nil ?_
   refine AW.cond (.tm U) (fun h32 => ?_) (fun h32 => ?_)
   · skip
     try simp at h32
     refine AW.sr ?_
     refine AWl.p (R_build (ps := []) U U U in30 U U st30 .nil U) U ?_
     refine AWl.nilA (i := 33) 20002 4 0 U U U ?_
     refine AWl.chgb (R_store_pb U U U (.tm U) (.tm U) U ty30 U U U (by kernel_rfl) U) ?_
     refine AWl.le (σ' := ⟨_, [(2, _), (3, _), (4, _), (5, _), (6, _), (32, _)], [(2, _), (4, _), (20001, _), (20002, _)]⟩) (Le.sub0 U ⟨U, U, U, U, U, U, Y⟩ ⟨U, U, U, U, Y⟩) ?_
     refine AWl.ac ?_
     refine AWl.nil (AW.ret ?_)
     refine Res.many U (.cell U U ty30 U U (.tmp U .nil)) U ?_ (by simp)
     rw [parseX_spec (k := k) (by omega), if_neg (by simpa using h32)]; rfl
   · skip
     try simp at h32
     refine AW.skip ?_
     refine AW.sr ?_
     refine AWl.p (by exact R_load_pp U (.no U) U (.tm U) U ty30 U U) U ?_
     refine AWl.chgb (R_store_pb U U U (.tm U) (.tm U) U ty30 U U U (by kernel_rfl) U) ?_
     refine AWl.le (σ' := ⟨_, [(2, _), (3, _), (4, _), (5, _), (6, _), (32, _)], [(2, _), (4, _), (20001, _)]⟩) (Le.sub0 U ⟨U, U, U, U, U, U, Y⟩ ⟨U, U, U, Y⟩) ?_
     refine AWl.ac ?_
     refine AWl.nil (AW.ret ?_)
     refine Res.many U (.cell U U ty30 U U (.tmp U .nil)) U ?_ (by simp)
     rw [parseX_spec (k := k) (by omega), if_pos (by simpa using h32)]; rfl
end Go.Proofs.YtbkhopfpejhnlaaGreat
