import Derived.Test.YtbkhopfpejhnlaaGreatDoorB92ta
import Derived.Test.YtbkhopfpejhnlaaGreatDoorAbsQta
set_option linter.unusedVariables false
set_option linter.unusedSimpArgs false
set_option maxHeartbeats 1000000
set_option maxRecDepth 100000
namespace Go.Q
open Go.D
theorem parseE_short {l : List UInt8} (h : (Lib.cut l [58]).2.1.length ≠ 3) : parseE l = (noE, false) := by
 unfold parseE
 rw [if_neg fun hh => h hh.1]
def edgeX (a : List UInt8) (x0 x1 x2 : UInt8) : TEdge := ⟨(parseI a).1, (x0.toNat : Int) - 48, (x2.toNat : Int) - 48, (x1.toNat : Int) - 97⟩
theorem parseE_yes {l : List UInt8} {x0 x1 x2 : UInt8} (hB : (Lib.cut l [58]).2.1 = [x0, x1, x2]) (h : bs (fmtEdge (edgeX (Lib.cut l [58]).1 x0 x1 x2)) = bs l) : parseE l = (edgeX (Lib.cut l [58]).1 x0 x1 x2, true) := by
 unfold parseE
 have e : edgeRd (Lib.cut l [58]).1 (Lib.cut l [58]).2.1 = edgeX (Lib.cut l [58]).1 x0 x1 x2 := by rw [hB]; rfl
 rw [e, if_pos ⟨by rw [hB]; rfl, bs_inj h⟩]
theorem parseE_bad {l : List UInt8} {x0 x1 x2 : UInt8} (hB : (Lib.cut l [58]).2.1 = [x0, x1, x2]) (h : ¬ bs (fmtEdge (edgeX (Lib.cut l [58]).1 x0 x1 x2)) = bs l) : parseE l = (noE, false) := by
 unfold parseE
 have e : edgeRd (Lib.cut l [58]).1 (Lib.cut l [58]).2.1 = edgeX (Lib.cut l [58]).1 x0 x1 x2 := by rw [hB]; rfl
 rw [e, if_neg fun hh => h (by rw [hh.2])]
def edgeY (a : List UInt8) (x0 x1 x2 : UInt8) : TEdge := ⟨(parseI a).1, (x0.toNat : Int) - 48, (x2.toNat : Int) - 48, (letP [x1]).1 / 2⟩
theorem two_parts {p : List (List UInt8)} {a b : List UInt8} (h : p.length = 2) (ha : p[0]? = some a) (hb : p[1]? = some b) : p = [a, b] := by
 match p, h with
 | [x, y], _ => simp at ha hb; rw [ha, hb]
theorem parseE_syes {l a : List UInt8} {x0 x1 x2 : UInt8} (hs : splitL 58 l = [a, [x0, x1, x2]]) (h : bs (fmtEdge (edgeY a x0 x1 x2)) = bs l) : parseE l = (edgeY a x0 x1 x2, true) := by
 rw [spec_edge hs]
 have e : edgeSp a [x0, x1, x2] = edgeY a x0 x1 x2 := rfl
 rw [e, if_pos (bs_inj h)]
theorem parseE_sbad {l a : List UInt8} {x0 x1 x2 : UInt8} (hs : splitL 58 l = [a, [x0, x1, x2]]) (h : ¬ bs (fmtEdge (edgeY a x0 x1 x2)) = bs l) : parseE l = (noE, false) := by
 rw [spec_edge hs]
 have e : edgeSp a [x0, x1, x2] = edgeY a x0 x1 x2 := rfl
 rw [e, if_neg fun hh => h (by rw [hh])]
theorem parseE_sno {l b : List UInt8} (h : (splitL 58 l).length = 2 → (splitL 58 l)[1]? = some b ∧ b.length ≠ 3) : parseE l = (noE, false) :=
 spec_edge_no fun a c hs => by
  rw [hs] at h
  obtain ⟨h1, h2⟩ := h rfl
  simp at h1
  rw [h1]; exact h2
end Go.Q
namespace Go.Proofs.YtbkhopfpejhnlaaGreatDoor
open Go.RowKit Go.Q Go.D
theorem implParseEdge (l : List UInt8) (hz : l.length ≤ 1073741824) : FnT Tryz.prog 94 [.one (.v (.string (bs l)))] (.tup [.agg (cEdge (parseE l).1), .one (.v (.bool (parseE l).2))]) := by
 have hcc := stringsCut (bs l) [58] (by rw [bs_size]; omega)
 rw [bs_list] at hcc
 refine FnT.walk Tryz.func94 U (by kernel_rfl) Tryz.ntmps94 U fun hlen w0 => ?_
 try simp [cEdge, cGraph, cChange, cBatch, cHistory] at hlen
 have hsz := bs_size (Lib.cut l [58]).2.1
 refine AW.sr ?_
 refine AWl.add (R_alloc 2 U U U in95 U U U) U ?_
 refine AWl.ac ?_
 refine AWl.nil (AW.sr ?_)
 refine AWl.mv ?_
 refine AWl.p (R_callz (FnT.fr (hcc)) U (.no U) U (.cons (.tm U) U (.cons (.const U) U .nil))) U ?_
 refine AWl.p (R_movet U (.no U) U U fun _ => rfl) U ?_
 refine AWl.p (R_extract U (.no U) U U (fun _ => rfl) U) U ?_
 refine AWl.p (R_extract U (.no U) U U (fun _ => rfl) U) U ?_
 refine AWl.p (R_extract U (.no U) U U (fun _ => rfl) U) U ?_
 refine AWl.av ?_
 refine AWl.av ?_
 refine AWl.av ?_
 refine AWl.nil (AW.seq ?_)
 refine AW.seq ?_
 refine AW.le (σ' := ⟨_, [(0, _), (2, _), (3, _), (4, _), (5, _)], [(2, _)]⟩) (Le.sub0 U ⟨U, U, U, U, U, Y⟩ ⟨U, Y⟩) ?_
 refine AW.region ?_
 refine AWl.mv ?_
 refine AWl.p (R_len_s U (.no U) U (.tm U) Tryz.underlying9) U ?_
 refine AWl.p (R_ne U (.no U) U (.tm U) (.const U)) U ?_
 refine AWl.nil ?_
 refine AW.cond (.tm U) (fun h16 => ?_) (fun h16 => ?_)
 · skip
   try simp at h16
   refine AW.sr ?_
   refine AWl.p (R_build (ps := []) U U U in95 U U st95 .nil U) U ?_
   refine AWl.chgb (R_store_pb U U U (.tm U) (.tm U) U ty95 U U U (by kernel_rfl) U) ?_
   refine AWl.le (σ' := ⟨_, [(0, _), (2, _), (3, _), (4, _), (5, _), (16, _)], [(2, _)]⟩) (Le.sub0 U ⟨U, U, U, U, U, U, Y⟩ ⟨U, Y⟩) ?_
   refine AWl.ac ?_
   refine AWl.nil (AW.ret ?_)
   refine Res.many U (.cell U U ty95 U U (.tmp U .nil)) U ?_ (by simp)
   rw [parseE_short (by omega)]; rfl
 · skip
   try simp at h16
   obtain ⟨x0, x1, x2, hx⟩ := three_bytes (x := (Lib.cut l [58]).2.1) (by omega)
   have hb0 : x0.toNat < 256 := x0.toNat_lt
   have hb1 : x1.toNat < 256 := x1.toNat_lt
   have hb2 : x2.toNat < 256 := x2.toNat_lt
   refine AW.skip ?_
   refine AW.seq ?_
   refine AW.le (σ' := ⟨_, [(0, _), (2, _), (3, _), (4, _), (5, _), (14, _), (15, _), (16, _)], [(2, _)]⟩) (Le.sub0 U ⟨U, U, U, U, U, U, U, U, Y⟩ ⟨U, Y⟩) ?_
   refine AW.mixn 15 14 1 [0, 1, 2, 3, 4, 5, 6, 7, 8, 9, 10, 11, 12, 13] [] [[], [0], [0, 1], [0, 1, 2], [], [4], [4, 5], [4, 5, 6], [], [8], [8, 9], [8, 9, 10], [0, 1, 2, 3, 4, 5, 6, 7, 8, 9, 10, 11], [], [0, 1, 2, 3, 4, 5, 6, 7, 8, 9, 10, 11, 12, 13]] [[0, 1, 2, 3, 4, 5, 6, 7, 8, 9, 10, 11, 12, 13], [0, 1, 2, 3, 4, 5, 6, 7, 8, 9, 10, 11, 12, 13, 14]] [(0, 14, 1)] [(0, [0, 1, 2, 3, 4, 5, 6, 7, 8, 9, 10, 11, 12, 13])] (by kernel_rfl) (by kernel_rfl) (by kernel_rfl) (by kernel_rfl) U U ?_
   refine DrawG.step U U (Loc.of U fun σ' hs => R_move U (.no U) (hd_sup hs U) (.tm (hs.slots _ _ U))) ?_
   refine DrawG.step U U (Loc.of U fun σ' hs => R_strIndex U (.no U) (hd_sup hs U) (.tm (hs.slots _ _ U)) (.const U) Tryz.underlying9 (fun _ => ⟨by omega, by rw [bs_get, hx]; rfl⟩)) ?_
   refine DrawG.step U U (Loc.of U fun σ' hs => R_conv U (.no U) (hd_sup hs U) (.tm (hs.slots _ _ U)) (by rw [Tryz.underlying5]; rfl) Tryz.underlying3 (fun _ => (show IntKind.i64.wrap (x0.toNat : Int) = (x0.toNat : Int) from wrapI (by omega)))) ?_
   refine DrawG.step U U (Loc.of U fun σ' hs => R_sub U (.no U) (hd_sup hs U) (.tm (hs.slots _ _ U)) (.const U) (fun _ => by omega)) ?_
   refine DrawG.step U U (Loc.of U fun σ' hs => R_move U (.no U) (hd_sup hs U) (.tm (hs.slots _ _ U))) ?_
   refine DrawG.step U U (Loc.of U fun σ' hs => R_strIndex U (.no U) (hd_sup hs U) (.tm (hs.slots _ _ U)) (.const U) Tryz.underlying9 (fun _ => ⟨by omega, by rw [bs_get, hx]; rfl⟩)) ?_
   refine DrawG.step U U (Loc.of U fun σ' hs => R_conv U (.no U) (hd_sup hs U) (.tm (hs.slots _ _ U)) (by rw [Tryz.underlying5]; rfl) Tryz.underlying3 (fun _ => (show IntKind.i64.wrap (x1.toNat : Int) = (x1.toNat : Int) from wrapI (by omega)))) ?_
   refine DrawG.step U U (Loc.of U fun σ' hs => R_sub U (.no U) (hd_sup hs U) (.tm (hs.slots _ _ U)) (.const U) (fun _ => by omega)) ?_
   refine DrawG.step U U (Loc.of U fun σ' hs => R_move U (.no U) (hd_sup hs U) (.tm (hs.slots _ _ U))) ?_
   refine DrawG.step U U (Loc.of U fun σ' hs => R_strIndex U (.no U) (hd_sup hs U) (.tm (hs.slots _ _ U)) (.const U) Tryz.underlying9 (fun _ => ⟨by omega, by rw [bs_get, hx]; rfl⟩)) ?_
   refine DrawG.step U U (Loc.of U fun σ' hs => R_conv U (.no U) (hd_sup hs U) (.tm (hs.slots _ _ U)) (by rw [Tryz.underlying5]; rfl) Tryz.underlying3 (fun _ => (show IntKind.i64.wrap (x2.toNat : Int) = (x2.toNat : Int) from wrapI (by omega)))) ?_
   refine DrawG.step U U (Loc.of U fun σ' hs => R_sub U (.no U) (hd_sup hs U) (.tm (hs.slots _ _ U)) (.const U) (fun _ => by omega)) ?_
   refine DrawG.step U U (Loc.of U fun σ' hs => R_build (ps := [(1, .tmp 21), (3, .tmp 25), (2, .tmp 29)]) U U (hd_sup hs U) in95 U U st95 (.cons (.tm (hs.slots _ _ U)) U U fp95_1 (.cons (.tm (hs.slots _ _ U)) U U fp95_3 (.cons (.tm (hs.slots _ _ U)) U U fp95_2 .nil))) U) ?_
   refine DrawG.step U U (Loc.of1 U fun σ' hs hf => R_alloc 7 U U (hd_sup hs U) in95 U U hf) ?_
   refine DrawG.fin U (FinX.mk U U ?_)
   refine MixD.add ⟨_, [(0, _), (2, _), (3, _), (4, _), (5, _), (7, _), (16, _), (18, _), (19, _), (20, _), (21, _), (22, _), (23, _), (24, _), (25, _), (26, _), (27, _), (28, _), (29, _), (30, _)], [(2, _), (7, _)]⟩ rfl (Le.sub0 rfl ⟨rfl, rfl, rfl, rfl, rfl, rfl, rfl, rfl, rfl, rfl, rfl, rfl, rfl, rfl, rfl, rfl, rfl, rfl, rfl, rfl, Y⟩ ⟨rfl, rfl, Y⟩) ?_
   refine MixD.go ?_
   apply Dag.new (i := 14)
   case ha | ho | hb => rfl
   case hE =>
    intro w9
    refine AWl.chgb (R_store_pb U U U (.tm U) (.tm U) U ty95 U U U (by kernel_rfl) U) ?_
    exact AWl.nil (Le.sub0 (σ' := ⟨_, [(0, _), (2, _), (3, _), (4, _), (5, _), (7, _), (16, _)], [(2, _), (7, _)]⟩) U ⟨U, U, U, U, U, U, U, Y⟩ ⟨U, U, Y⟩)
   refine Dag.fin (k := 1) U ?_
   refine AWl.nil (AW.sr ?_)
   refine AWl.mv ?_
   refine AWl.p (R_callz (FnT.fr (implParseInt (Lib.cut l [58]).1)) U (.no U) U (.cons (.tm U) U .nil)) U ?_
   refine AWl.p (R_movet U (.no U) U U fun _ => rfl) U ?_
   refine AWl.p (R_extract U (.no U) U U (fun _ => rfl) U) U ?_
   refine AWl.p (R_extract U (.no U) U U (fun _ => rfl) U) U ?_
   refine AWl.p (by exact R_fieldAddr_pp U (.no U) U (.tm U) fl95_0) U ?_
   refine AWl.chgb (R_store_pb U U U (.tm U) (.tm U) U ty3 U U U (by kernel_rfl) U) ?_
   refine AWl.nil (AW.seq ?_)
   refine AW.seq ?_
   refine AW.le (σ' := ⟨_, [(0, _), (2, _), (3, _), (4, _), (5, _), (7, _)], [(2, _), (7, _)]⟩) (Le.sub0 U ⟨U, U, U, U, U, U, Y⟩ ⟨U, U, Y⟩) ?_
   refine AW.region ?_
   refine AWl.p (by exact R_load_pp U (.no U) U (.tm U) U ty95 U U) U ?_
   refine AWl.p (R_callz (FnT.fr (implFormatEdge (edgeX (Lib.cut l [58]).1 x0 x1 x2))) U (.no U) U (.cons (.tm U) U .nil)) U ?_
   refine AWl.mv ?_
   refine AWl.p (R_nestr U (.no U) U (.tm U) (.tm U)) U ?_
   refine AWl.nil ?_
   refine AW.cond (.tm U) (fun h40 => ?_) (fun h40 => ?_)
   · skip
     try simp at h40
     refine AW.sr ?_
     refine AWl.p (R_build (ps := []) U U U in95 U U st95 .nil U) U ?_
     refine AWl.chgb (R_store_pb U U U (.tm U) (.tm U) U ty95 U U U (by kernel_rfl) U) ?_
     refine AWl.le (σ' := ⟨_, [(0, _), (2, _), (3, _), (4, _), (5, _), (7, _), (40, _)], [(2, _), (7, _)]⟩) (Le.sub0 U ⟨U, U, U, U, U, U, U, Y⟩ ⟨U, U, Y⟩) ?_
     refine AWl.ac ?_
     refine AWl.nil (AW.ret ?_)
     refine Res.many U (.cell U U ty95 U U (.tmp U .nil)) U ?_ (by simp)
     rw [parseE_bad hx h40]; rfl
   · skip
     try simp at h40
     refine AW.skip ?_
     refine AW.sr ?_
     refine AWl.p (by exact R_load_pp U (.no U) U (.tm U) U ty95 U U) U ?_
     refine AWl.chgb (R_store_pb U U U (.tm U) (.tm U) U ty95 U U U (by kernel_rfl) U) ?_
     refine AWl.le (σ' := ⟨_, [(0, _), (2, _), (3, _), (4, _), (5, _), (7, _), (40, _)], [(2, _), (7, _)]⟩) (Le.sub0 U ⟨U, U, U, U, U, U, U, Y⟩ ⟨U, U, Y⟩) ?_
     refine AWl.ac ?_
     refine AWl.nil (AW.ret ?_)
     refine Res.many U (.cell U U ty95 U U (.tmp U .nil)) U ?_ (by simp)
     rw [parseE_yes hx h40]; rfl
theorem specParseEdge (l : List UInt8) (hz : l.length ≤ 1073741824) : FnT Tryz.prog 131 [.one (.v (.string (bs l)))] (.tup [.agg (cEdge (parseE l).1), .one (.v (.bool (parseE l).2))]) := by
 obtain ⟨b1, hb1⟩ : ∃ b1, (splitL 58 l).length = 2 → (splitL 58 l)[1]? = some b1 := ⟨(splitL 58 l)[1]?.getD [], fun h => by rw [List.getElem?_eq_getElem (by omega)]; rfl⟩
 refine FnT.walk Tryz.func131 U (by kernel_rfl) Tryz.ntmps131 U fun hlen w0 => ?_
 try simp [cEdge, cGraph, cChange, cBatch, cHistory] at hlen
 have hsz := bs_size b1
 refine AW.sr ?_
 refine AWl.add (R_alloc 2 U U U in95 U U U) U ?_
 refine AWl.ac ?_
 refine AWl.nil (AW.sr ?_)
 refine AWl.mv ?_
 refine AWl.p (R_callz (FnT.fr (specl2Cut l 58 hz)) U (.no U) U (.cons (.tm U) U (.cons (.const U) U .nil))) U ?_
 refine AWl.av ?_
 refine AWl.nil (AW.seq ?_)
 refine AW.sr ?_
 refine AWl.mv ?_
 refine AWl.p (by exact R_lenm U (.no U) U (.tm U) (by exact .t) Tryz.underlying87) U ?_
 refine AWl.p (R_ne U (.no U) U (.tm U) (.const U)) U ?_
 refine AWl.mv ?_
 refine AWl.p (R_move U (by exact .not1 U U U U) U (.tmp U (by exact fun _ => rfl))) U ?_
 refine AWl.p ((by exact R_indexAddr U (by exact .not1 U U U U) U (.tmp U (by exact id)) (.const U) Tryz.underlying87 ty9 (fun hq => ⟨by omega, map_get (hb1 (by simp at hq; omega))⟩))) U ?_
 refine AWl.p (by exact R_load U (by exact .not1 U U U U) U (.tmp U (by exact id)) ty9 U U) U ?_
 refine AWl.p (R_len_s U (by exact .not1 U U U U) U (.tmp U (by exact id)) Tryz.underlying9) U ?_
 refine AWl.p (R_ne U (by exact .not1 U U U U) U (.tmp U (by exact id)) (.const U)) U ?_
 refine AWl.p (R_or U (.no U) U (.tm U) (.tmp U (by exact id))) U ?_
 refine AWl.nil ?_
 refine AW.cond (.tm U) (fun h21 => ?_) (fun h21 => ?_)
 · skip
   try simp at h21
   refine AW.seq ?_
   refine AW.le (σ' := ⟨_, [(0, _), (2, _), (3, _), (4, _)], [(2, _)]⟩) (Le.sub0 U ⟨U, U, U, U, Y⟩ ⟨U, Y⟩) ?_
   refine AW.region ?_
   refine AWl.p (R_build (ps := []) U U U in95 U U st95 .nil U) U ?_
   refine AWl.chgb (R_store_pb U U U (.tm U) (.tm U) U ty95 U U U (by kernel_rfl) U) ?_
   refine AWl.le (σ' := ⟨_, [(0, _), (2, _), (3, _), (4, _)], [(2, _)]⟩) (Le.sub0 U ⟨U, U, U, U, Y⟩ ⟨U, Y⟩) ?_
   refine AWl.ac ?_
   refine AWl.nil (AW.ret ?_)
   refine Res.many U (.cell U U ty95 U U (.tmp U .nil)) U ?_ (by simp)
   rw [parseE_sno (b := b1) (fun h => ⟨hb1 h, by first | omega | (simp at h21; omega)⟩)]; rfl
 · skip
   try simp at h21
   have hl2 : (splitL 58 l).length = 2 := by (first | omega | (simp at h21; omega))
   have hb1 := hb1 hl2
   obtain ⟨a0, ha0⟩ : ∃ a0, (splitL 58 l)[0]? = some a0 := ⟨_, List.getElem?_eq_getElem (by omega)⟩
   obtain ⟨x0, x1, x2, hx⟩ := three_bytes (x := b1) (by omega)
   have hab := two_parts hl2 ha0 hb1
   have hbb0 : x0.toNat < 256 := x0.toNat_lt
   have hbb2 : x2.toNat < 256 := x2.toNat_lt
   have hlp := letP_le [x1]
   have hall := (splitL_mem (c := 58) (l := l) (x := a0) (List.mem_of_getElem? ha0)).2
   have hpl : FnT Tryz.prog 150 [.one (.v (.string ((bs b1).extract 1 2)))] (.tup [.one (.v (.int .i64 (letP [x1]).1)), .one (.v (.bool (letP [x1]).2))]) := by (rw [bs_extract, hx]; exact specParseLetter [x1])
   refine AW.skip ?_
   refine AW.seq ?_
   refine AW.le (σ' := ⟨_, [(0, _), (2, _), (3, _), (4, _)], [(2, _)]⟩) (Le.sub0 U ⟨U, U, U, U, Y⟩ ⟨U, Y⟩) ?_
   refine AW.region ?_
   refine AWl.mv ?_
   refine AWl.p (by exact R_indexAddr U (.no U) U (.tm U) (.const U) Tryz.underlying87 ty9 (fun _ => ⟨by omega, map_get ha0⟩)) U ?_
   refine AWl.p (by exact R_load U (.no U) U (.tm U) ty9 U U) U ?_
   refine AWl.p (R_callz (FnT.fr (specParseInt a0 (by omega))) U (.no U) U (.cons (.tm U) U .nil)) U ?_
   refine AWl.p (R_movet U (.no U) U U fun _ => rfl) U ?_
   refine AWl.p (R_extract U (.no U) U U (fun _ => rfl) U) U ?_
   refine AWl.p (R_extract U (.no U) U U (fun _ => rfl) U) U ?_
   refine AWl.av ?_
   refine AWl.av ?_
   refine AWl.nil (AW.seq ?_)
   refine AW.le (σ' := ⟨_, [(0, _), (2, _), (3, _), (4, _), (5, _)], [(2, _)]⟩) (Le.sub0 U ⟨U, U, U, U, U, Y⟩ ⟨U, Y⟩) ?_
   refine AW.region ?_
   refine AWl.mv ?_
   refine AWl.p (by exact R_indexAddr U (.no U) U (.tm U) (.const U) Tryz.underlying87 ty9 (fun _ => ⟨by omega, map_get hb1⟩)) U ?_
   refine AWl.p (by exact R_load U (.no U) U (.tm U) ty9 U U) U ?_
   refine AWl.p (R_strSlice (n := 1) (m := 2) U (.no U) U (.tm U) (.yes (.const U) (fun _ => by first | omega | (simp <;> omega))) (.yes (.const U) (fun _ => by first | omega | (simp <;> omega))) Tryz.underlying9 (fun _ => ⟨by omega, by first | omega | (simp; omega)⟩)) U ?_
   refine AWl.p (R_callz (FnT.fr (hpl)) U (.no U) U (.cons (.tm U) U .nil)) U ?_
   refine AWl.p (R_movet U (.no U) U U fun _ => rfl) U ?_
   refine AWl.p (R_extract U (.no U) U U (fun _ => rfl) U) U ?_
   refine AWl.p (R_extract U (.no U) U U (fun _ => rfl) U) U ?_
   refine AWl.av ?_
   refine AWl.av ?_
   refine AWl.nil (AW.seq ?_)
   refine AW.le (σ' := ⟨_, [(0, _), (2, _), (3, _), (4, _), (5, _), (7, _)], [(2, _)]⟩) (Le.sub0 U ⟨U, U, U, U, U, U, Y⟩ ⟨U, Y⟩) ?_
   refine AW.le (σ' := ⟨_, [(0, _), (2, _), (3, _), (4, _), (5, _), (7, _)], [(2, _)]⟩) (Le.sub0 U ⟨U, U, U, U, U, U, Y⟩ ⟨U, Y⟩) ?_
   refine AW.mixn 18 17 1 [0, 1, 2, 3, 4, 5, 6, 7, 8, 9, 10, 11, 12, 13, 14, 15, 16] [] [[], [], [1], [1, 2], [1, 2, 3], [1, 2, 3, 4], [1, 2, 3, 4, 5], [], [7], [7, 8], [7, 8, 9], [7, 8, 9, 10], [7, 8, 9, 10, 11], [], [13], [0, 1, 2, 3, 4, 5, 6, 7, 8, 9, 10, 11, 12, 13, 14], [], [0, 1, 2, 3, 4, 5, 6, 7, 8, 9, 10, 11, 12, 13, 14, 15, 16]] [[0, 1, 2, 3, 4, 5, 6, 7, 8, 9, 10, 11, 12, 13, 14, 15, 16], [0, 1, 2, 3, 4, 5, 6, 7, 8, 9, 10, 11, 12, 13, 14, 15, 16, 17]] [(0, 17, 1)] [(0, [0, 1, 2, 3, 4, 5, 6, 7, 8, 9, 10, 11, 12, 13, 14, 15, 16])] (by kernel_rfl) (by kernel_rfl) (by kernel_rfl) (by kernel_rfl) U U ?_
   refine DrawG.step U U (Loc.of U fun σ' hs => R_move U (.no U) (hd_sup hs U) (.tm (hs.slots _ _ U))) ?_
   refine DrawG.step U U (Loc.of U fun σ' hs => R_move U (.no U) (hd_sup hs U) (.tm (hs.slots _ _ U))) ?_
   refine DrawG.step U U (Loc.of U fun σ' hs => (by exact R_indexAddr U (.no U) (hd_sup hs U) (.tm (hs.slots _ _ U)) (.const U) Tryz.underlying87 ty9 (fun _ => ⟨by omega, map_get hb1⟩))) ?_
   refine DrawG.step U U (Loc.of U fun σ' hs => (by exact R_load U (.no U) (hd_sup hs U) (.tm (hs.slots _ _ U)) ty9 U U)) ?_
   refine DrawG.step U U (Loc.of U fun σ' hs => R_strIndex U (.no U) (hd_sup hs U) (.tm (hs.slots _ _ U)) (.const U) Tryz.underlying9 (fun _ => ⟨by omega, by rw [bs_get, hx]; rfl⟩)) ?_
   refine DrawG.step U U (Loc.of U fun σ' hs => R_conv U (.no U) (hd_sup hs U) (.tm (hs.slots _ _ U)) (by rw [Tryz.underlying5]; rfl) Tryz.underlying3 (fun _ => (show IntKind.i64.wrap (x0.toNat : Int) = (x0.toNat : Int) from wrapI (by omega)))) ?_
   refine DrawG.step U U (Loc.of U fun σ' hs => R_sub U (.no U) (hd_sup hs U) (.tm (hs.slots _ _ U)) (.const U) (fun _ => by omega)) ?_
   refine DrawG.step U U (Loc.of U fun σ' hs => R_move U (.no U) (hd_sup hs U) (.tm (hs.slots _ _ U))) ?_
   refine DrawG.step U U (Loc.of U fun σ' hs => (by exact R_indexAddr U (.no U) (hd_sup hs U) (.tm (hs.slots _ _ U)) (.const U) Tryz.underlying87 ty9 (fun _ => ⟨by omega, map_get hb1⟩))) ?_
   refine DrawG.step U U (Loc.of U fun σ' hs => (by exact R_load U (.no U) (hd_sup hs U) (.tm (hs.slots _ _ U)) ty9 U U)) ?_
   refine DrawG.step U U (Loc.of U fun σ' hs => R_strIndex U (.no U) (hd_sup hs U) (.tm (hs.slots _ _ U)) (.const U) Tryz.underlying9 (fun _ => ⟨by omega, by rw [bs_get, hx]; rfl⟩)) ?_
   refine DrawG.step U U (Loc.of U fun σ' hs => R_conv U (.no U) (hd_sup hs U) (.tm (hs.slots _ _ U)) (by rw [Tryz.underlying5]; rfl) Tryz.underlying3 (fun _ => (show IntKind.i64.wrap (x2.toNat : Int) = (x2.toNat : Int) from wrapI (by omega)))) ?_
   refine DrawG.step U U (Loc.of U fun σ' hs => R_sub U (.no U) (hd_sup hs U) (.tm (hs.slots _ _ U)) (.const U) (fun _ => by omega)) ?_
   refine DrawG.step U U (Loc.of U fun σ' hs => R_move U (.no U) (hd_sup hs U) (.tm (hs.slots _ _ U))) ?_
   refine DrawG.step U U (Loc.of U fun σ' hs => R_quo U (.no U) (hd_sup hs U) (.tm (hs.slots _ _ U)) (.const U) (fun _ => by omega)) ?_
   refine DrawG.step U U (Loc.of U fun σ' hs => R_build (ps := [(0, .tmp 38), (1, .tmp 44), (2, .tmp 50), (3, .tmp 52)]) U U (hd_sup hs U) in95 U U st95 (.cons (.tm (hs.slots _ _ U)) U U fp95_0 (.cons (.tm (hs.slots _ _ U)) U U fp95_1 (.cons (.tm (hs.slots _ _ U)) U U fp95_2 (.cons (.tm (hs.slots _ _ U)) U U fp95_3 .nil)))) U) ?_
   refine DrawG.step U U (Loc.of1 U fun σ' hs hf => R_alloc 9 U U (hd_sup hs U) in95 U U hf) ?_
   refine DrawG.fin U (FinX.mk U U ?_)
   refine MixD.add ⟨_, [(0, _), (2, _), (3, _), (4, _), (5, _), (7, _), (9, _), (38, _), (39, _), (40, _), (41, _), (42, _), (43, _), (44, _), (45, _), (46, _), (47, _), (48, _), (49, _), (50, _), (51, _), (52, _), (53, _)], [(2, _), (9, _)]⟩ rfl (Le.sub0 rfl ⟨rfl, rfl, rfl, rfl, rfl, rfl, rfl, rfl, rfl, rfl, rfl, rfl, rfl, rfl, rfl, rfl, rfl, rfl, rfl, rfl, rfl, rfl, rfl, Y⟩ ⟨rfl, rfl, Y⟩) ?_
   refine MixD.go ?_
   apply Dag.new (i := 17)
   case ha | ho | hb => rfl
   case hE =>
    intro w9
    refine AWl.chgb (R_store_pb U U U (.tm U) (.tm U) U ty95 U U U (by kernel_rfl) U) ?_
    exact AWl.nil (Le.sub0 (σ' := ⟨_, [(0, _), (2, _), (3, _), (4, _), (5, _), (7, _), (9, _)], [(2, _), (9, _)]⟩) U ⟨U, U, U, U, U, U, U, Y⟩ ⟨U, U, Y⟩)
   refine Dag.fin (k := 1) U ?_
   refine AWl.nil (AW.seq ?_)
   refine AW.sr ?_
   refine AWl.p (by exact R_load_pp U (.no U) U (.tm U) U ty95 U U) U ?_
   refine AWl.p (R_callz (FnT.fr (specFormatEdge (edgeY a0 x0 x1 x2))) U (.no U) U (.cons (.tm U) U .nil)) U ?_
   refine AWl.mv ?_
   refine AWl.p (R_nestr U (.no U) U (.tm U) (.tm U)) U ?_
   refine AWl.nil ?_
   refine AW.cond (.tm U) (fun h57 => ?_) (fun h57 => ?_)
   · skip
     try simp at h57
     refine AW.sr ?_
     refine AWl.p (R_build (ps := []) U U U in95 U U st95 .nil U) U ?_
     refine AWl.chgb (R_store_pb U U U (.tm U) (.tm U) U ty95 U U U (by kernel_rfl) U) ?_
     refine AWl.le (σ' := ⟨_, [(0, _), (2, _), (3, _), (4, _), (5, _), (7, _), (9, _), (57, _)], [(2, _), (9, _)]⟩) (Le.sub0 U ⟨U, U, U, U, U, U, U, U, Y⟩ ⟨U, U, Y⟩) ?_
     refine AWl.ac ?_
     refine AWl.nil (AW.ret ?_)
     refine Res.many U (.cell U U ty95 U U (.tmp U .nil)) U ?_ (by simp)
     rw [parseE_sbad (by rw [hab, hx]) h57]; rfl
   · skip
     try simp at h57
     refine AW.skip ?_
     refine AW.sr ?_
     refine AWl.p (by exact R_load_pp U (.no U) U (.tm U) U ty95 U U) U ?_
     refine AWl.chgb (R_store_pb U U U (.tm U) (.tm U) U ty95 U U U (by kernel_rfl) U) ?_
     refine AWl.le (σ' := ⟨_, [(0, _), (2, _), (3, _), (4, _), (5, _), (7, _), (9, _), (57, _)], [(2, _), (9, _)]⟩) (Le.sub0 U ⟨U, U, U, U, U, U, U, U, Y⟩ ⟨U, U, Y⟩) ?_
     refine AWl.ac ?_
     refine AWl.nil (AW.ret ?_)
     refine Res.many U (.cell U U ty95 U U (.tmp U .nil)) U ?_ (by simp)
     rw [parseE_syes (by rw [hab, hx]) h57]; rfl
end Go.Proofs.YtbkhopfpejhnlaaGreatDoor
