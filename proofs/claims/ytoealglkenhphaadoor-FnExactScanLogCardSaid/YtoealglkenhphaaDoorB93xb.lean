/- Edges read: both texts. -/
import Derived.Test.YtoealglkenhphaaDoorB92xb
import Derived.Test.YtoealglkenhphaaDoorAbsQxb
set_option linter.unusedVariables false
set_option linter.unusedSimpArgs false
set_option maxHeartbeats 1000000
set_option maxRecDepth 100000
namespace Go.Q
open Go.D
theorem parseE_short {l : List UInt8} (h : (Lib.cut l [58]).2.1.length ≠ 3) : parseE l = (noE, false) := by
  unfold parseE
  rw [if_neg fun hh => h hh.1]
def edgeX (a : List UInt8) (x0 x1 x2 : UInt8) : TEdge := ⟨(parseI a).1, (x0.toNat : Int) - 48, (x2.toNat : Int) - 48, (x1.toNat : Int) - 97⟩
theorem parseE_yes {l : List UInt8} {x0 x1 x2 : UInt8} (hB : (Lib.cut l [58]).2.1 = [x0, x1, x2]) (h : bs (fmtEdge (edgeX (Lib.cut l [58]).1 x0 x1 x2)) = bs l) : parseE l = (edgeX (Lib.cut l [58]).1 x0 x1 x2, true) := by
  unfold parseE
  have e : edgeRd (Lib.cut l [58]).1 (Lib.cut l [58]).2.1 = edgeX (Lib.cut l [58]).1 x0 x1 x2 := by rw [hB]; rfl
  rw [e, if_pos ⟨by rw [hB]; rfl, bs_inj h⟩]
theorem parseE_bad {l : List UInt8} {x0 x1 x2 : UInt8} (hB : (Lib.cut l [58]).2.1 = [x0, x1, x2]) (h : ¬ bs (fmtEdge (edgeX (Lib.cut l [58]).1 x0 x1 x2)) = bs l) : parseE l = (noE, false) := by
  unfold parseE
  have e : edgeRd (Lib.cut l [58]).1 (Lib.cut l [58]).2.1 = edgeX (Lib.cut l [58]).1 x0 x1 x2 := by rw [hB]; rfl
  rw [e, if_neg fun hh => h (by rw [hh.2])]
def edgeY (a : List UInt8) (x0 x1 x2 : UInt8) : TEdge := ⟨(parseI a).1, (x0.toNat : Int) - 48, (x2.toNat : Int) - 48, (letP [x1]).1 / 2⟩
theorem two_parts {p : List (List UInt8)} {a b : List UInt8} (h : p.length = 2) (ha : p[0]? = some a) (hb : p[1]? = some b) : p = [a, b] := by
  match p, h with
  | [x, y], _ => simp at ha hb; rw [ha, hb]
theorem parseE_syes {l a : List UInt8} {x0 x1 x2 : UInt8} (hs : splitL 58 l = [a, [x0, x1, x2]]) (h : bs (fmtEdge (edgeY a x0 x1 x2)) = bs l) : parseE l = (edgeY a x0 x1 x2, true) := by
  rw [spec_edge hs]
  have e : edgeSp a [x0, x1, x2] = edgeY a x0 x1 x2 := rfl
  rw [e, if_pos (bs_inj h)]
theorem parseE_sbad {l a : List UInt8} {x0 x1 x2 : UInt8} (hs : splitL 58 l = [a, [x0, x1, x2]]) (h : ¬ bs (fmtEdge (edgeY a x0 x1 x2)) = bs l) : parseE l = (noE, false) := by
  rw [spec_edge hs]
  have e : edgeSp a [x0, x1, x2] = edgeY a x0 x1 x2 := rfl
  rw [e, if_neg fun hh => h (by rw [hh])]
theorem parseE_sno {l b : List UInt8} (h : (splitL 58 l).length = 2 → (splitL 58 l)[1]? = some b ∧ b.length ≠ 3) : parseE l = (noE, false) :=
  spec_edge_no fun a c hs => by
    rw [hs] at h
    obtain ⟨h1, h2⟩ := h rfl
    simp at h1
    rw [h1]; exact h2
end Go.Q
namespace Go.Proofs.YtoealglkenhphaaDoor
open Go.RowKit Go.Q Go.D
theorem implParseEdge (l : List UInt8) (hz : l.length ≤ 1073741824) : FnT Tryd.prog 39 [.one (.v (.string (bs l)))] (.tup [.agg (cEdge (parseE l).1), .one (.v (.bool (parseE l).2))]) := by
  have hcc := stringsCut (bs l) [58] (by rw [bs_size]; omega)
  rw [bs_list] at hcc
  refine FnT.walk Tryd.func39 rfl (by kernel_rfl) Tryd.ntmps39 rfl fun hlen w0 => ?_
  try simp [cPair, cToken, cExpr, cEdge, cGraph, cStep, cWalk, cChange, cBatch, cHistory, cPositions, cAutomaton, cProductStep, cPathAtom, cConjunction, cView, cDelta, cRegistered, cRegistry] at hlen
  have hsz := bs_size (Lib.cut l [58]).2.1
  refine AW.seq ?_
  refine AW.region ?_
  refine AWl.add (R_alloc 2 rfl rfl rfl in51 rfl rfl rfl) rfl ?_
  refine AWl.put (R_assign rfl (.no rfl) rfl (.const rfl)) rfl ?_
  refine AWl.nil ?_
  refine AW.seq ?_
  refine AW.region ?_
  refine AWl.put (R_move rfl (.no rfl) rfl (.tmp rfl fun _ => rfl)) rfl ?_
  refine AWl.put (R_callz (FnT.fr (hcc)) rfl (.no rfl) rfl (.cons (.tmp rfl fun _ => rfl) rfl (.cons (.const rfl) rfl .nil))) rfl ?_
  refine AWl.put (R_movet rfl (.no rfl) rfl rfl fun _ => rfl) rfl ?_
  refine AWl.put (R_extract rfl (.no rfl) rfl rfl (fun _ => rfl) rfl) rfl ?_
  refine AWl.put (R_extract rfl (.no rfl) rfl rfl (fun _ => rfl) rfl) rfl ?_
  refine AWl.put (R_extract rfl (.no rfl) rfl rfl (fun _ => rfl) rfl) rfl ?_
  refine AWl.put (R_assign rfl (.no rfl) rfl (.tmp rfl fun _ => rfl)) rfl ?_
  refine AWl.put (R_assign rfl (.no rfl) rfl (.tmp rfl fun _ => rfl)) rfl ?_
  refine AWl.put (R_assign rfl (.no rfl) rfl (.tmp rfl fun _ => rfl)) rfl ?_
  refine AWl.nil ?_
  refine AW.seq ?_
  refine AW.seq ?_
  refine AW.le (σ' := ⟨_, [(0, _), (2, _), (3, _), (4, _), (5, _)], [(2, _)]⟩) (Le.sub0 rfl ⟨rfl, rfl, rfl, rfl, rfl, trivial⟩ ⟨rfl, trivial⟩) ?_
  refine AW.region ?_
  refine AWl.put (R_move rfl (.no rfl) rfl (.tmp rfl fun _ => rfl)) rfl ?_
  refine AWl.put (R_len_s rfl (.no rfl) rfl (.tmp rfl fun _ => rfl) Tryd.underlying9) rfl ?_
  refine AWl.put (R_ne rfl (.no rfl) rfl (.tmp rfl fun _ => rfl) (.const rfl)) rfl ?_
  refine AWl.nil ?_
  refine AW.cond (.tmp rfl fun _ => rfl) (fun h16 => ?_) (fun h16 => ?_)
  · skip
    try simp at h16
    refine AW.seq ?_
    refine AW.region ?_
    refine AWl.put (R_build (ps := []) rfl rfl rfl in51 rfl rfl st51 .nil rfl) rfl ?_
    refine AWl.chgb (R_store_pb rfl rfl rfl (.tmp rfl fun _ => rfl) (.tmp rfl fun _ => rfl) rfl ty51 rfl rfl rfl (by kernel_rfl) rfl) ?_
    refine AWl.le (σ' := ⟨_, [(0, _), (2, _), (3, _), (4, _), (5, _), (16, _)], [(2, _)]⟩) (Le.sub0 rfl ⟨rfl, rfl, rfl, rfl, rfl, rfl, trivial⟩ ⟨rfl, trivial⟩) ?_
    refine AWl.put (R_assign rfl (.no rfl) rfl (.const rfl)) rfl ?_
    refine AWl.nil ?_
    refine AW.ret ?_
    refine Res.many rfl (.cell rfl rfl ty51 rfl rfl (.tmp rfl .nil)) rfl ?_ (by simp)
    rw [parseE_short (by first | omega | (simp at h16; omega))]; rfl
  · skip
    try simp at h16
    obtain ⟨x0, x1, x2, hx⟩ := three_bytes (x := (Lib.cut l [58]).2.1) (by first | omega | (simp at h16; omega))
    have hb0 : x0.toNat < 256 := x0.toNat_lt
    have hb1 : x1.toNat < 256 := x1.toNat_lt
    have hb2 : x2.toNat < 256 := x2.toNat_lt
    refine AW.skip ?_
    refine AW.seq ?_
    refine AW.le (σ' := ⟨_, [(0, _), (2, _), (3, _), (4, _), (5, _), (14, _), (15, _), (16, _)], [(2, _)]⟩) (Le.sub0 rfl ⟨rfl, rfl, rfl, rfl, rfl, rfl, rfl, rfl, trivial⟩ ⟨rfl, trivial⟩) ?_
    refine AW.mixn 15 14 1 [0, 1, 2, 3, 4, 5, 6, 7, 8, 9, 10, 11, 12, 13] [] [[], [0], [0, 1], [0, 1, 2], [], [4], [4, 5], [4, 5, 6], [], [8], [8, 9], [8, 9, 10], [0, 1, 2, 3, 4, 5, 6, 7, 8, 9, 10, 11], [], [0, 1, 2, 3, 4, 5, 6, 7, 8, 9, 10, 11, 12, 13]] [[0, 1, 2, 3, 4, 5, 6, 7, 8, 9, 10, 11, 12, 13], [0, 1, 2, 3, 4, 5, 6, 7, 8, 9, 10, 11, 12, 13, 14]] [(0, 14, 1)] [(0, [0, 1, 2, 3, 4, 5, 6, 7, 8, 9, 10, 11, 12, 13])] (by kernel_rfl) (by kernel_rfl) (by kernel_rfl) (by kernel_rfl) rfl rfl ?_
    refine DrawG.step rfl rfl (Loc.of rfl fun σ' hs => R_move rfl (.no rfl) (hd_sup hs rfl) (.tmp (hs.slots _ _ rfl) fun _ => rfl)) ?_
    refine DrawG.step rfl rfl (Loc.of rfl fun σ' hs => R_strIndex rfl (.no rfl) (hd_sup hs rfl) (.tmp (hs.slots _ _ rfl) fun _ => rfl) (.const rfl) Tryd.underlying9 (fun _ => ⟨by omega, by rw [bs_get, hx]; rfl⟩)) ?_
    refine DrawG.step rfl rfl (Loc.of rfl fun σ' hs => R_conv rfl (.no rfl) (hd_sup hs rfl) (.tmp (hs.slots _ _ rfl) fun _ => rfl) (by rw [Tryd.underlying5]; rfl) Tryd.underlying3 (fun _ => (show IntKind.i64.wrap (x0.toNat : Int) = (x0.toNat : Int) from wrapI (by omega)))) ?_
    refine DrawG.step rfl rfl (Loc.of rfl fun σ' hs => R_sub rfl (.no rfl) (hd_sup hs rfl) (.tmp (hs.slots _ _ rfl) fun _ => rfl) (.const rfl) (fun _ => by omega)) ?_
    refine DrawG.step rfl rfl (Loc.of rfl fun σ' hs => R_move rfl (.no rfl) (hd_sup hs rfl) (.tmp (hs.slots _ _ rfl) fun _ => rfl)) ?_
    refine DrawG.step rfl rfl (Loc.of rfl fun σ' hs => R_strIndex rfl (.no rfl) (hd_sup hs rfl) (.tmp (hs.slots _ _ rfl) fun _ => rfl) (.const rfl) Tryd.underlying9 (fun _ => ⟨by omega, by rw [bs_get, hx]; rfl⟩)) ?_
    refine DrawG.step rfl rfl (Loc.of rfl fun σ' hs => R_conv rfl (.no rfl) (hd_sup hs rfl) (.tmp (hs.slots _ _ rfl) fun _ => rfl) (by rw [Tryd.underlying5]; rfl) Tryd.underlying3 (fun _ => (show IntKind.i64.wrap (x1.toNat : Int) = (x1.toNat : Int) from wrapI (by omega)))) ?_
    refine DrawG.step rfl rfl (Loc.of rfl fun σ' hs => R_sub rfl (.no rfl) (hd_sup hs rfl) (.tmp (hs.slots _ _ rfl) fun _ => rfl) (.const rfl) (fun _ => by omega)) ?_
    refine DrawG.step rfl rfl (Loc.of rfl fun σ' hs => R_move rfl (.no rfl) (hd_sup hs rfl) (.tmp (hs.slots _ _ rfl) fun _ => rfl)) ?_
    refine DrawG.step rfl rfl (Loc.of rfl fun σ' hs => R_strIndex rfl (.no rfl) (hd_sup hs rfl) (.tmp (hs.slots _ _ rfl) fun _ => rfl) (.const rfl) Tryd.underlying9 (fun _ => ⟨by omega, by rw [bs_get, hx]; rfl⟩)) ?_
    refine DrawG.step rfl rfl (Loc.of rfl fun σ' hs => R_conv rfl (.no rfl) (hd_sup hs rfl) (.tmp (hs.slots _ _ rfl) fun _ => rfl) (by rw [Tryd.underlying5]; rfl) Tryd.underlying3 (fun _ => (show IntKind.i64.wrap (x2.toNat : Int) = (x2.toNat : Int) from wrapI (by omega)))) ?_
    refine DrawG.step rfl rfl (Loc.of rfl fun σ' hs => R_sub rfl (.no rfl) (hd_sup hs rfl) (.tmp (hs.slots _ _ rfl) fun _ => rfl) (.const rfl) (fun _ => by omega)) ?_
    refine DrawG.step rfl rfl (Loc.of rfl fun σ' hs => R_build (ps := [(1, .tmp 21), (3, .tmp 25), (2, .tmp 29)]) rfl rfl (hd_sup hs rfl) in51 rfl rfl st51 (.cons (.tmp (hs.slots _ _ rfl) fun _ => rfl) rfl rfl fp51_1 (.cons (.tmp (hs.slots _ _ rfl) fun _ => rfl) rfl rfl fp51_3 (.cons (.tmp (hs.slots _ _ rfl) fun _ => rfl) rfl rfl fp51_2 .nil))) rfl) ?_
    refine DrawG.step rfl rfl (Loc.of1 rfl fun σ' hs hf => R_alloc 7 rfl rfl (hd_sup hs rfl) in51 rfl rfl hf) ?_
    refine DrawG.fin rfl (FinX.mk rfl rfl ?_)
    refine MixD.add ⟨_, [(0, _), (2, _), (3, _), (4, _), (5, _), (7, _), (16, _), (18, _), (19, _), (20, _), (21, _), (22, _), (23, _), (24, _), (25, _), (26, _), (27, _), (28, _), (29, _), (30, _)], [(2, _), (7, _)]⟩ rfl (Le.sub0 rfl ⟨rfl, rfl, rfl, rfl, rfl, rfl, rfl, rfl, rfl, rfl, rfl, rfl, rfl, rfl, rfl, rfl, rfl, rfl, rfl, rfl, trivial⟩ ⟨rfl, rfl, trivial⟩) ?_
    refine MixD.go ?_
    apply Dag.new (i := 14)
    case ha => rfl
    case ho => rfl
    case hb => rfl
    case hE =>
      intro w9
      refine AWl.chgb (R_store_pb rfl rfl rfl (.tmp rfl fun _ => rfl) (.tmp rfl fun _ => rfl) rfl ty51 rfl rfl rfl (by kernel_rfl) rfl) ?_
      refine AWl.nil ?_
      exact Le.sub0 (σ' := ⟨_, [(0, _), (2, _), (3, _), (4, _), (5, _), (7, _), (16, _)], [(2, _), (7, _)]⟩) rfl ⟨rfl, rfl, rfl, rfl, rfl, rfl, rfl, trivial⟩ ⟨rfl, rfl, trivial⟩
    refine Dag.fin (k := 1) rfl ?_
    refine AWl.nil ?_
    refine AW.seq ?_
    refine AW.region ?_
    refine AWl.put (R_move rfl (.no rfl) rfl (.tmp rfl fun _ => rfl)) rfl ?_
    refine AWl.put (R_callz (FnT.fr (implParseInt (Lib.cut l [58]).1)) rfl (.no rfl) rfl (.cons (.tmp rfl fun _ => rfl) rfl .nil)) rfl ?_
    refine AWl.put (R_movet rfl (.no rfl) rfl rfl fun _ => rfl) rfl ?_
    refine AWl.put (R_extract rfl (.no rfl) rfl rfl (fun _ => rfl) rfl) rfl ?_
    refine AWl.put (R_extract rfl (.no rfl) rfl rfl (fun _ => rfl) rfl) rfl ?_
    refine AWl.put ((by first | exact R_fieldAddr rfl (.no rfl) rfl (.tmp rfl fun _ => rfl) fl51_0 | exact R_fieldAddr_pp rfl (.no rfl) rfl (.tmp rfl fun _ => rfl) fl51_0 | exact R_fieldAddr_vw rfl (.no rfl) rfl (.tmp rfl fun _ => rfl) fl51_0 | exact R_fieldAddr_pr rfl (.no rfl) rfl (.tmp rfl fun _ => rfl) fl51_0)) rfl ?_
    refine AWl.chgb (R_store_pb rfl rfl rfl (.tmp rfl fun _ => rfl) (.tmp rfl fun _ => rfl) rfl ty3 rfl rfl rfl (by kernel_rfl) rfl) ?_
    refine AWl.nil ?_
    refine AW.seq ?_
    refine AW.seq ?_
    refine AW.le (σ' := ⟨_, [(0, _), (2, _), (3, _), (4, _), (5, _), (7, _)], [(2, _), (7, _)]⟩) (Le.sub0 rfl ⟨rfl, rfl, rfl, rfl, rfl, rfl, trivial⟩ ⟨rfl, rfl, trivial⟩) ?_
    refine AW.region ?_
    refine AWl.put ((by first | exact R_load rfl (.no rfl) rfl (.tmp rfl fun _ => rfl) ty51 rfl rfl | exact R_load_pp rfl (.no rfl) rfl (.tmp rfl fun _ => rfl) rfl ty51 rfl rfl | exact R_load_vw rfl (.no rfl) rfl (.tmp rfl fun _ => rfl) ty51 rfl rfl | exact R_load_pr rfl (.no rfl) rfl (.tmp rfl fun _ => rfl) rfl (by first | assumption | exact map_get (by assumption)) ty51 rfl rfl)) rfl ?_
    refine AWl.put (R_callz (FnT.fr (implFormatEdge (edgeX (Lib.cut l [58]).1 x0 x1 x2))) rfl (.no rfl) rfl (.cons (.tmp rfl fun _ => rfl) rfl .nil)) rfl ?_
    refine AWl.put (R_move rfl (.no rfl) rfl (.tmp rfl fun _ => rfl)) rfl ?_
    refine AWl.put (R_nestr rfl (.no rfl) rfl (.tmp rfl fun _ => rfl) (.tmp rfl fun _ => rfl)) rfl ?_
    refine AWl.nil ?_
    refine AW.cond (.tmp rfl fun _ => rfl) (fun h40 => ?_) (fun h40 => ?_)
    · skip
      try simp at h40
      refine AW.seq ?_
      refine AW.region ?_
      refine AWl.put (R_build (ps := []) rfl rfl rfl in51 rfl rfl st51 .nil rfl) rfl ?_
      refine AWl.chgb (R_store_pb rfl rfl rfl (.tmp rfl fun _ => rfl) (.tmp rfl fun _ => rfl) rfl ty51 rfl rfl rfl (by kernel_rfl) rfl) ?_
      refine AWl.le (σ' := ⟨_, [(0, _), (2, _), (3, _), (4, _), (5, _), (7, _), (40, _)], [(2, _), (7, _)]⟩) (Le.sub0 rfl ⟨rfl, rfl, rfl, rfl, rfl, rfl, rfl, trivial⟩ ⟨rfl, rfl, trivial⟩) ?_
      refine AWl.put (R_assign rfl (.no rfl) rfl (.const rfl)) rfl ?_
      refine AWl.nil ?_
      refine AW.ret ?_
      refine Res.many rfl (.cell rfl rfl ty51 rfl rfl (.tmp rfl .nil)) rfl ?_ (by simp)
      rw [parseE_bad hx h40]; rfl
    · skip
      try simp at h40
      refine AW.skip ?_
      refine AW.seq ?_
      refine AW.region ?_
      refine AWl.put ((by first | exact R_load rfl (.no rfl) rfl (.tmp rfl fun _ => rfl) ty51 rfl rfl | exact R_load_pp rfl (.no rfl) rfl (.tmp rfl fun _ => rfl) rfl ty51 rfl rfl | exact R_load_vw rfl (.no rfl) rfl (.tmp rfl fun _ => rfl) ty51 rfl rfl | exact R_load_pr rfl (.no rfl) rfl (.tmp rfl fun _ => rfl) rfl (by first | assumption | exact map_get (by assumption)) ty51 rfl rfl)) rfl ?_
      refine AWl.chgb (R_store_pb rfl rfl rfl (.tmp rfl fun _ => rfl) (.tmp rfl fun _ => rfl) rfl ty51 rfl rfl rfl (by kernel_rfl) rfl) ?_
      refine AWl.le (σ' := ⟨_, [(0, _), (2, _), (3, _), (4, _), (5, _), (7, _), (40, _)], [(2, _), (7, _)]⟩) (Le.sub0 rfl ⟨rfl, rfl, rfl, rfl, rfl, rfl, rfl, trivial⟩ ⟨rfl, rfl, trivial⟩) ?_
      refine AWl.put (R_assign rfl (.no rfl) rfl (.const rfl)) rfl ?_
      refine AWl.nil ?_
      refine AW.ret ?_
      refine Res.many rfl (.cell rfl rfl ty51 rfl rfl (.tmp rfl .nil)) rfl ?_ (by simp)
      rw [parseE_yes hx h40]; rfl
theorem specParseEdge (l : List UInt8) (hz : l.length ≤ 1073741824) : FnT Tryd.prog 31 [.one (.v (.string (bs l)))] (.tup [.agg (cEdge (parseE l).1), .one (.v (.bool (parseE l).2))]) := by
  obtain ⟨b1, hb1⟩ : ∃ b1, (splitL 58 l).length = 2 → (splitL 58 l)[1]? = some b1 := ⟨(splitL 58 l)[1]?.getD [], fun h => by rw [List.getElem?_eq_getElem (by omega)]; rfl⟩
  refine FnT.walk Tryd.func31 rfl (by kernel_rfl) Tryd.ntmps31 rfl fun hlen w0 => ?_
  try simp [cPair, cToken, cExpr, cEdge, cGraph, cStep, cWalk, cChange, cBatch, cHistory, cPositions, cAutomaton, cProductStep, cPathAtom, cConjunction, cView, cDelta, cRegistered, cRegistry] at hlen
  have hsz := bs_size b1
  refine AW.seq ?_
  refine AW.region ?_
  refine AWl.add (R_alloc 2 rfl rfl rfl in51 rfl rfl rfl) rfl ?_
  refine AWl.put (R_assign rfl (.no rfl) rfl (.const rfl)) rfl ?_
  refine AWl.nil ?_
  refine AW.seq ?_
  refine AW.region ?_
  refine AWl.put (R_move rfl (.no rfl) rfl (.tmp rfl fun _ => rfl)) rfl ?_
  refine AWl.put (R_callz (FnT.fr (specl2Cut l 58 hz)) rfl (.no rfl) rfl (.cons (.tmp rfl fun _ => rfl) rfl (.cons (.const rfl) rfl .nil))) rfl ?_
  refine AWl.put (R_assign rfl (.no rfl) rfl (.tmp rfl fun _ => rfl)) rfl ?_
  refine AWl.nil ?_
  refine AW.seq ?_
  refine AW.seq ?_
  refine AW.region ?_
  refine AWl.put (R_move rfl (.no rfl) rfl (.tmp rfl fun _ => rfl)) rfl ?_
  refine AWl.put ((by first | exact R_lenm rfl (.no rfl) rfl (.tmp rfl fun _ => rfl) (by first | exact .t | exact .rf rfl | exact .vw | exact .nil) Tryd.underlying38 | exact R_len rfl (.no rfl) rfl (.tmp rfl fun _ => rfl) (by first | exact .t | exact .rf rfl | exact .vw | exact .nil) Tryd.underlying38)) rfl ?_
  refine AWl.put (R_ne rfl (.no rfl) rfl (.tmp rfl fun _ => rfl) (.const rfl)) rfl ?_
  refine AWl.put (R_move rfl (.no rfl) rfl (.tmp rfl fun _ => rfl)) rfl ?_
  refine AWl.put (R_move rfl (by first | exact .not1 rfl rfl rfl rfl | exact .not rfl rfl rfl rfl) rfl (.tmp rfl (by first | exact fun _ => rfl | exact id | simp))) rfl ?_
  refine AWl.put ((by first | exact R_indexAddr rfl (by first | exact .not1 rfl rfl rfl rfl | exact .not rfl rfl rfl rfl) rfl (.tmp rfl (by first | exact fun _ => rfl | exact id | simp)) (.const rfl) Tryd.underlying38 ty9 (fun hq => ⟨by omega, map_get (hb1 (by simp at hq; omega))⟩) | exact R_indexAddr_vw rfl (by first | exact .not1 rfl rfl rfl rfl | exact .not rfl rfl rfl rfl) rfl (.tmp rfl (by first | exact fun _ => rfl | exact id | simp)) (.const rfl) Tryd.underlying38 ty9 (fun hq => ⟨by omega, map_get (hb1 (by simp at hq; omega))⟩) | exact R_indexAddr_rf rfl (by first | exact .not1 rfl rfl rfl rfl | exact .not rfl rfl rfl rfl) rfl (.tmp rfl (by first | exact fun _ => rfl | exact id | simp)) rfl (.const rfl) Tryd.underlying38 ty9 (fun hq => ⟨by omega, map_get (hb1 (by simp at hq; omega))⟩))) rfl ?_
  refine AWl.put ((by first | exact R_load rfl (by first | exact .not1 rfl rfl rfl rfl | exact .not rfl rfl rfl rfl) rfl (.tmp rfl (by first | exact fun _ => rfl | exact id | simp)) ty9 rfl rfl | exact R_load_pp rfl (by first | exact .not1 rfl rfl rfl rfl | exact .not rfl rfl rfl rfl) rfl (.tmp rfl (by first | exact fun _ => rfl | exact id | simp)) rfl ty9 rfl rfl | exact R_load_vw rfl (by first | exact .not1 rfl rfl rfl rfl | exact .not rfl rfl rfl rfl) rfl (.tmp rfl (by first | exact fun _ => rfl | exact id | simp)) ty9 rfl rfl | exact R_load_pr rfl (by first | exact .not1 rfl rfl rfl rfl | exact .not rfl rfl rfl rfl) rfl (.tmp rfl (by first | exact fun _ => rfl | exact id | simp)) rfl (by first | assumption | exact map_get (by assumption)) ty9 rfl rfl)) rfl ?_
  refine AWl.put (R_len_s rfl (by first | exact .not1 rfl rfl rfl rfl | exact .not rfl rfl rfl rfl) rfl (.tmp rfl (by first | exact fun _ => rfl | exact id | simp)) Tryd.underlying9) rfl ?_
  refine AWl.put (R_ne rfl (by first | exact .not1 rfl rfl rfl rfl | exact .not rfl rfl rfl rfl) rfl (.tmp rfl (by first | exact fun _ => rfl | exact id | simp)) (.const rfl)) rfl ?_
  refine AWl.put (R_or rfl (.no rfl) rfl (.tmp rfl fun _ => rfl) (.tmp rfl (by first | exact fun _ => rfl | exact id | simp))) rfl ?_
  refine AWl.nil ?_
  refine AW.cond (.tmp rfl fun _ => rfl) (fun h21 => ?_) (fun h21 => ?_)
  · skip
    try simp at h21
    refine AW.seq ?_
    refine AW.le (σ' := ⟨_, [(0, _), (2, _), (3, _), (4, _)], [(2, _)]⟩) (Le.sub0 rfl ⟨rfl, rfl, rfl, rfl, trivial⟩ ⟨rfl, trivial⟩) ?_
    refine AW.region ?_
    refine AWl.put (R_build (ps := []) rfl rfl rfl in51 rfl rfl st51 .nil rfl) rfl ?_
    refine AWl.chgb (R_store_pb rfl rfl rfl (.tmp rfl fun _ => rfl) (.tmp rfl fun _ => rfl) rfl ty51 rfl rfl rfl (by kernel_rfl) rfl) ?_
    refine AWl.le (σ' := ⟨_, [(0, _), (2, _), (3, _), (4, _)], [(2, _)]⟩) (Le.sub0 rfl ⟨rfl, rfl, rfl, rfl, trivial⟩ ⟨rfl, trivial⟩) ?_
    refine AWl.put (R_assign rfl (.no rfl) rfl (.const rfl)) rfl ?_
    refine AWl.nil ?_
    refine AW.ret ?_
    refine Res.many rfl (.cell rfl rfl ty51 rfl rfl (.tmp rfl .nil)) rfl ?_ (by simp)
    rw [parseE_sno (b := b1) (fun h => ⟨hb1 h, by first | omega | (simp at h21; omega)⟩)]; rfl
  · skip
    try simp at h21
    have hl2 : (splitL 58 l).length = 2 := by (first | omega | (simp at h21; omega))
    have hb1 := hb1 hl2
    obtain ⟨a0, ha0⟩ : ∃ a0, (splitL 58 l)[0]? = some a0 := ⟨_, List.getElem?_eq_getElem (by omega)⟩
    obtain ⟨x0, x1, x2, hx⟩ := three_bytes (x := b1) (by first | omega | (simp at h21; omega))
    have hab := two_parts hl2 ha0 hb1
    have hbb0 : x0.toNat < 256 := x0.toNat_lt
    have hbb2 : x2.toNat < 256 := x2.toNat_lt
    have hlp := letP_le [x1]
    have hall := (splitL_mem (c := 58) (l := l) (x := a0) (List.mem_of_getElem? ha0)).2
    have hpl : FnT Tryd.prog 45 [.one (.v (.string ((bs b1).extract 1 2)))] (.tup [.one (.v (.int .i64 (letP [x1]).1)), .one (.v (.bool (letP [x1]).2))]) := by (rw [bs_extract, hx]; exact specParseLetter [x1])
    refine AW.skip ?_
    refine AW.seq ?_
    refine AW.le (σ' := ⟨_, [(0, _), (2, _), (3, _), (4, _)], [(2, _)]⟩) (Le.sub0 rfl ⟨rfl, rfl, rfl, rfl, trivial⟩ ⟨rfl, trivial⟩) ?_
    refine AW.region ?_
    refine AWl.put (R_move rfl (.no rfl) rfl (.tmp rfl fun _ => rfl)) rfl ?_
    refine AWl.put ((by first | exact R_indexAddr rfl (.no rfl) rfl (.tmp rfl fun _ => rfl) (.const rfl) Tryd.underlying38 ty9 (fun _ => ⟨by omega, map_get ha0⟩) | exact R_indexAddr_vw rfl (.no rfl) rfl (.tmp rfl fun _ => rfl) (.const rfl) Tryd.underlying38 ty9 (fun _ => ⟨by omega, map_get ha0⟩) | exact R_indexAddr_rf rfl (.no rfl) rfl (.tmp rfl fun _ => rfl) rfl (.const rfl) Tryd.underlying38 ty9 (fun _ => ⟨by omega, map_get ha0⟩))) rfl ?_
    refine AWl.put ((by first | exact R_load rfl (.no rfl) rfl (.tmp rfl fun _ => rfl) ty9 rfl rfl | exact R_load_pp rfl (.no rfl) rfl (.tmp rfl fun _ => rfl) rfl ty9 rfl rfl | exact R_load_vw rfl (.no rfl) rfl (.tmp rfl fun _ => rfl) ty9 rfl rfl | exact R_load_pr rfl (.no rfl) rfl (.tmp rfl fun _ => rfl) rfl (by first | assumption | exact map_get (by assumption)) ty9 rfl rfl)) rfl ?_
    refine AWl.put (R_callz (FnT.fr (specParseInt a0 (by omega))) rfl (.no rfl) rfl (.cons (.tmp rfl fun _ => rfl) rfl .nil)) rfl ?_
    refine AWl.put (R_movet rfl (.no rfl) rfl rfl fun _ => rfl) rfl ?_
    refine AWl.put (R_extract rfl (.no rfl) rfl rfl (fun _ => rfl) rfl) rfl ?_
    refine AWl.put (R_extract rfl (.no rfl) rfl rfl (fun _ => rfl) rfl) rfl ?_
    refine AWl.put (R_assign rfl (.no rfl) rfl (.tmp rfl fun _ => rfl)) rfl ?_
    refine AWl.put (R_assign rfl (.no rfl) rfl (.tmp rfl fun _ => rfl)) rfl ?_
    refine AWl.nil ?_
    refine AW.seq ?_
    refine AW.le (σ' := ⟨_, [(0, _), (2, _), (3, _), (4, _), (5, _)], [(2, _)]⟩) (Le.sub0 rfl ⟨rfl, rfl, rfl, rfl, rfl, trivial⟩ ⟨rfl, trivial⟩) ?_
    refine AW.region ?_
    refine AWl.put (R_move rfl (.no rfl) rfl (.tmp rfl fun _ => rfl)) rfl ?_
    refine AWl.put ((by first | exact R_indexAddr rfl (.no rfl) rfl (.tmp rfl fun _ => rfl) (.const rfl) Tryd.underlying38 ty9 (fun _ => ⟨by omega, map_get hb1⟩) | exact R_indexAddr_vw rfl (.no rfl) rfl (.tmp rfl fun _ => rfl) (.const rfl) Tryd.underlying38 ty9 (fun _ => ⟨by omega, map_get hb1⟩) | exact R_indexAddr_rf rfl (.no rfl) rfl (.tmp rfl fun _ => rfl) rfl (.const rfl) Tryd.underlying38 ty9 (fun _ => ⟨by omega, map_get hb1⟩))) rfl ?_
    refine AWl.put ((by first | exact R_load rfl (.no rfl) rfl (.tmp rfl fun _ => rfl) ty9 rfl rfl | exact R_load_pp rfl (.no rfl) rfl (.tmp rfl fun _ => rfl) rfl ty9 rfl rfl | exact R_load_vw rfl (.no rfl) rfl (.tmp rfl fun _ => rfl) ty9 rfl rfl | exact R_load_pr rfl (.no rfl) rfl (.tmp rfl fun _ => rfl) rfl (by first | assumption | exact map_get (by assumption)) ty9 rfl rfl)) rfl ?_
    refine AWl.put (R_strSlice (n := 1) (m := 2) rfl (.no rfl) rfl (.tmp rfl fun _ => rfl) (.yes (.const rfl) (fun _ => by first | omega | (simp <;> omega))) (.yes (.const rfl) (fun _ => by first | omega | (simp <;> omega))) Tryd.underlying9 (fun _ => ⟨by omega, by first | omega | (simp; omega)⟩)) rfl ?_
    refine AWl.put (R_callz (FnT.fr (hpl)) rfl (.no rfl) rfl (.cons (.tmp rfl fun _ => rfl) rfl .nil)) rfl ?_
    refine AWl.put (R_movet rfl (.no rfl) rfl rfl fun _ => rfl) rfl ?_
    refine AWl.put (R_extract rfl (.no rfl) rfl rfl (fun _ => rfl) rfl) rfl ?_
    refine AWl.put (R_extract rfl (.no rfl) rfl rfl (fun _ => rfl) rfl) rfl ?_
    refine AWl.put (R_assign rfl (.no rfl) rfl (.tmp rfl fun _ => rfl)) rfl ?_
    refine AWl.put (R_assign rfl (.no rfl) rfl (.tmp rfl fun _ => rfl)) rfl ?_
    refine AWl.nil ?_
    refine AW.seq ?_
    refine AW.le (σ' := ⟨_, [(0, _), (2, _), (3, _), (4, _), (5, _), (7, _)], [(2, _)]⟩) (Le.sub0 rfl ⟨rfl, rfl, rfl, rfl, rfl, rfl, trivial⟩ ⟨rfl, trivial⟩) ?_
    refine AW.le (σ' := ⟨_, [(0, _), (2, _), (3, _), (4, _), (5, _), (7, _)], [(2, _)]⟩) (Le.sub0 rfl ⟨rfl, rfl, rfl, rfl, rfl, rfl, trivial⟩ ⟨rfl, trivial⟩) ?_
    refine AW.mixn 18 17 1 [0, 1, 2, 3, 4, 5, 6, 7, 8, 9, 10, 11, 12, 13, 14, 15, 16] [] [[], [], [1], [1, 2], [1, 2, 3], [1, 2, 3, 4], [1, 2, 3, 4, 5], [], [7], [7, 8], [7, 8, 9], [7, 8, 9, 10], [7, 8, 9, 10, 11], [], [13], [0, 1, 2, 3, 4, 5, 6, 7, 8, 9, 10, 11, 12, 13, 14], [], [0, 1, 2, 3, 4, 5, 6, 7, 8, 9, 10, 11, 12, 13, 14, 15, 16]] [[0, 1, 2, 3, 4, 5, 6, 7, 8, 9, 10, 11, 12, 13, 14, 15, 16], [0, 1, 2, 3, 4, 5, 6, 7, 8, 9, 10, 11, 12, 13, 14, 15, 16, 17]] [(0, 17, 1)] [(0, [0, 1, 2, 3, 4, 5, 6, 7, 8, 9, 10, 11, 12, 13, 14, 15, 16])] (by kernel_rfl) (by kernel_rfl) (by kernel_rfl) (by kernel_rfl) rfl rfl ?_
    refine DrawG.step rfl rfl (Loc.of rfl fun σ' hs => R_move rfl (.no rfl) (hd_sup hs rfl) (.tmp (hs.slots _ _ rfl) fun _ => rfl)) ?_
    refine DrawG.step rfl rfl (Loc.of rfl fun σ' hs => R_move rfl (.no rfl) (hd_sup hs rfl) (.tmp (hs.slots _ _ rfl) fun _ => rfl)) ?_
    refine DrawG.step rfl rfl (Loc.of rfl fun σ' hs => (by first | exact R_indexAddr rfl (.no rfl) (hd_sup hs rfl) (.tmp (hs.slots _ _ rfl) fun _ => rfl) (.const rfl) Tryd.underlying38 ty9 (fun _ => ⟨by omega, map_get hb1⟩) | exact R_indexAddr_vw rfl (.no rfl) (hd_sup hs rfl) (.tmp (hs.slots _ _ rfl) fun _ => rfl) (.const rfl) Tryd.underlying38 ty9 (fun _ => ⟨by omega, map_get hb1⟩) | exact R_indexAddr_rf rfl (.no rfl) (hd_sup hs rfl) (.tmp (hs.slots _ _ rfl) fun _ => rfl) (hs.res _ _ rfl) (.const rfl) Tryd.underlying38 ty9 (fun _ => ⟨by omega, map_get hb1⟩))) ?_
    refine DrawG.step rfl rfl (Loc.of rfl fun σ' hs => (by first | exact R_load rfl (.no rfl) (hd_sup hs rfl) (.tmp (hs.slots _ _ rfl) fun _ => rfl) ty9 rfl rfl | exact R_load_pp rfl (.no rfl) (hd_sup hs rfl) (.tmp (hs.slots _ _ rfl) fun _ => rfl) (hs.res _ _ rfl) ty9 rfl rfl | exact R_load_vw rfl (.no rfl) (hd_sup hs rfl) (.tmp (hs.slots _ _ rfl) fun _ => rfl) ty9 rfl rfl | exact R_load_pr rfl (.no rfl) (hd_sup hs rfl) (.tmp (hs.slots _ _ rfl) fun _ => rfl) (hs.res _ _ rfl) (by first | assumption | exact map_get (by assumption)) ty9 rfl rfl)) ?_
    refine DrawG.step rfl rfl (Loc.of rfl fun σ' hs => R_strIndex rfl (.no rfl) (hd_sup hs rfl) (.tmp (hs.slots _ _ rfl) fun _ => rfl) (.const rfl) Tryd.underlying9 (fun _ => ⟨by omega, by rw [bs_get, hx]; rfl⟩)) ?_
    refine DrawG.step rfl rfl (Loc.of rfl fun σ' hs => R_conv rfl (.no rfl) (hd_sup hs rfl) (.tmp (hs.slots _ _ rfl) fun _ => rfl) (by rw [Tryd.underlying5]; rfl) Tryd.underlying3 (fun _ => (show IntKind.i64.wrap (x0.toNat : Int) = (x0.toNat : Int) from wrapI (by omega)))) ?_
    refine DrawG.step rfl rfl (Loc.of rfl fun σ' hs => R_sub rfl (.no rfl) (hd_sup hs rfl) (.tmp (hs.slots _ _ rfl) fun _ => rfl) (.const rfl) (fun _ => by omega)) ?_
    refine DrawG.step rfl rfl (Loc.of rfl fun σ' hs => R_move rfl (.no rfl) (hd_sup hs rfl) (.tmp (hs.slots _ _ rfl) fun _ => rfl)) ?_
    refine DrawG.step rfl rfl (Loc.of rfl fun σ' hs => (by first | exact R_indexAddr rfl (.no rfl) (hd_sup hs rfl) (.tmp (hs.slots _ _ rfl) fun _ => rfl) (.const rfl) Tryd.underlying38 ty9 (fun _ => ⟨by omega, map_get hb1⟩) | exact R_indexAddr_vw rfl (.no rfl) (hd_sup hs rfl) (.tmp (hs.slots _ _ rfl) fun _ => rfl) (.const rfl) Tryd.underlying38 ty9 (fun _ => ⟨by omega, map_get hb1⟩) | exact R_indexAddr_rf rfl (.no rfl) (hd_sup hs rfl) (.tmp (hs.slots _ _ rfl) fun _ => rfl) (hs.res _ _ rfl) (.const rfl) Tryd.underlying38 ty9 (fun _ => ⟨by omega, map_get hb1⟩))) ?_
    refine DrawG.step rfl rfl (Loc.of rfl fun σ' hs => (by first | exact R_load rfl (.no rfl) (hd_sup hs rfl) (.tmp (hs.slots _ _ rfl) fun _ => rfl) ty9 rfl rfl | exact R_load_pp rfl (.no rfl) (hd_sup hs rfl) (.tmp (hs.slots _ _ rfl) fun _ => rfl) (hs.res _ _ rfl) ty9 rfl rfl | exact R_load_vw rfl (.no rfl) (hd_sup hs rfl) (.tmp (hs.slots _ _ rfl) fun _ => rfl) ty9 rfl rfl | exact R_load_pr rfl (.no rfl) (hd_sup hs rfl) (.tmp (hs.slots _ _ rfl) fun _ => rfl) (hs.res _ _ rfl) (by first | assumption | exact map_get (by assumption)) ty9 rfl rfl)) ?_
    refine DrawG.step rfl rfl (Loc.of rfl fun σ' hs => R_strIndex rfl (.no rfl) (hd_sup hs rfl) (.tmp (hs.slots _ _ rfl) fun _ => rfl) (.const rfl) Tryd.underlying9 (fun _ => ⟨by omega, by rw [bs_get, hx]; rfl⟩)) ?_
    refine DrawG.step rfl rfl (Loc.of rfl fun σ' hs => R_conv rfl (.no rfl) (hd_sup hs rfl) (.tmp (hs.slots _ _ rfl) fun _ => rfl) (by rw [Tryd.underlying5]; rfl) Tryd.underlying3 (fun _ => (show IntKind.i64.wrap (x2.toNat : Int) = (x2.toNat : Int) from wrapI (by omega)))) ?_
    refine DrawG.step rfl rfl (Loc.of rfl fun σ' hs => R_sub rfl (.no rfl) (hd_sup hs rfl) (.tmp (hs.slots _ _ rfl) fun _ => rfl) (.const rfl) (fun _ => by omega)) ?_
    refine DrawG.step rfl rfl (Loc.of rfl fun σ' hs => R_move rfl (.no rfl) (hd_sup hs rfl) (.tmp (hs.slots _ _ rfl) fun _ => rfl)) ?_
    refine DrawG.step rfl rfl (Loc.of rfl fun σ' hs => R_quo rfl (.no rfl) (hd_sup hs rfl) (.tmp (hs.slots _ _ rfl) fun _ => rfl) (.const rfl) (fun _ => by omega)) ?_
    refine DrawG.step rfl rfl (Loc.of rfl fun σ' hs => R_build (ps := [(0, .tmp 38), (1, .tmp 44), (2, .tmp 50), (3, .tmp 52)]) rfl rfl (hd_sup hs rfl) in51 rfl rfl st51 (.cons (.tmp (hs.slots _ _ rfl) fun _ => rfl) rfl rfl fp51_0 (.cons (.tmp (hs.slots _ _ rfl) fun _ => rfl) rfl rfl fp51_1 (.cons (.tmp (hs.slots _ _ rfl) fun _ => rfl) rfl rfl fp51_2 (.cons (.tmp (hs.slots _ _ rfl) fun _ => rfl) rfl rfl fp51_3 .nil)))) rfl) ?_
    refine DrawG.step rfl rfl (Loc.of1 rfl fun σ' hs hf => R_alloc 9 rfl rfl (hd_sup hs rfl) in51 rfl rfl hf) ?_
    refine DrawG.fin rfl (FinX.mk rfl rfl ?_)
    refine MixD.add ⟨_, [(0, _), (2, _), (3, _), (4, _), (5, _), (7, _), (9, _), (38, _), (39, _), (40, _), (41, _), (42, _), (43, _), (44, _), (45, _), (46, _), (47, _), (48, _), (49, _), (50, _), (51, _), (52, _), (53, _)], [(2, _), (9, _)]⟩ rfl (Le.sub0 rfl ⟨rfl, rfl, rfl, rfl, rfl, rfl, rfl, rfl, rfl, rfl, rfl, rfl, rfl, rfl, rfl, rfl, rfl, rfl, rfl, rfl, rfl, rfl, rfl, trivial⟩ ⟨rfl, rfl, trivial⟩) ?_
    refine MixD.go ?_
    apply Dag.new (i := 17)
    case ha => rfl
    case ho => rfl
    case hb => rfl
    case hE =>
      intro w9
      refine AWl.chgb (R_store_pb rfl rfl rfl (.tmp rfl fun _ => rfl) (.tmp rfl fun _ => rfl) rfl ty51 rfl rfl rfl (by kernel_rfl) rfl) ?_
      refine AWl.nil ?_
      exact Le.sub0 (σ' := ⟨_, [(0, _), (2, _), (3, _), (4, _), (5, _), (7, _), (9, _)], [(2, _), (9, _)]⟩) rfl ⟨rfl, rfl, rfl, rfl, rfl, rfl, rfl, trivial⟩ ⟨rfl, rfl, trivial⟩
    refine Dag.fin (k := 1) rfl ?_
    refine AWl.nil ?_
    refine AW.seq ?_
    refine AW.seq ?_
    refine AW.region ?_
    refine AWl.put ((by first | exact R_load rfl (.no rfl) rfl (.tmp rfl fun _ => rfl) ty51 rfl rfl | exact R_load_pp rfl (.no rfl) rfl (.tmp rfl fun _ => rfl) rfl ty51 rfl rfl | exact R_load_vw rfl (.no rfl) rfl (.tmp rfl fun _ => rfl) ty51 rfl rfl | exact R_load_pr rfl (.no rfl) rfl (.tmp rfl fun _ => rfl) rfl (by first | assumption | exact map_get (by assumption)) ty51 rfl rfl)) rfl ?_
    refine AWl.put (R_callz (FnT.fr (specFormatEdge (edgeY a0 x0 x1 x2))) rfl (.no rfl) rfl (.cons (.tmp rfl fun _ => rfl) rfl .nil)) rfl ?_
    refine AWl.put (R_move rfl (.no rfl) rfl (.tmp rfl fun _ => rfl)) rfl ?_
    refine AWl.put (R_nestr rfl (.no rfl) rfl (.tmp rfl fun _ => rfl) (.tmp rfl fun _ => rfl)) rfl ?_
    refine AWl.nil ?_
    refine AW.cond (.tmp rfl fun _ => rfl) (fun h57 => ?_) (fun h57 => ?_)
    · skip
      try simp at h57
      refine AW.seq ?_
      refine AW.region ?_
      refine AWl.put (R_build (ps := []) rfl rfl rfl in51 rfl rfl st51 .nil rfl) rfl ?_
      refine AWl.chgb (R_store_pb rfl rfl rfl (.tmp rfl fun _ => rfl) (.tmp rfl fun _ => rfl) rfl ty51 rfl rfl rfl (by kernel_rfl) rfl) ?_
      refine AWl.le (σ' := ⟨_, [(0, _), (2, _), (3, _), (4, _), (5, _), (7, _), (9, _), (57, _)], [(2, _), (9, _)]⟩) (Le.sub0 rfl ⟨rfl, rfl, rfl, rfl, rfl, rfl, rfl, rfl, trivial⟩ ⟨rfl, rfl, trivial⟩) ?_
      refine AWl.put (R_assign rfl (.no rfl) rfl (.const rfl)) rfl ?_
      refine AWl.nil ?_
      refine AW.ret ?_
      refine Res.many rfl (.cell rfl rfl ty51 rfl rfl (.tmp rfl .nil)) rfl ?_ (by simp)
      rw [parseE_sbad (by rw [hab, hx]) h57]; rfl
    · skip
      try simp at h57
      refine AW.skip ?_
      refine AW.seq ?_
      refine AW.region ?_
      refine AWl.put ((by first | exact R_load rfl (.no rfl) rfl (.tmp rfl fun _ => rfl) ty51 rfl rfl | exact R_load_pp rfl (.no rfl) rfl (.tmp rfl fun _ => rfl) rfl ty51 rfl rfl | exact R_load_vw rfl (.no rfl) rfl (.tmp rfl fun _ => rfl) ty51 rfl rfl | exact R_load_pr rfl (.no rfl) rfl (.tmp rfl fun _ => rfl) rfl (by first | assumption | exact map_get (by assumption)) ty51 rfl rfl)) rfl ?_
      refine AWl.chgb (R_store_pb rfl rfl rfl (.tmp rfl fun _ => rfl) (.tmp rfl fun _ => rfl) rfl ty51 rfl rfl rfl (by kernel_rfl) rfl) ?_
      refine AWl.le (σ' := ⟨_, [(0, _), (2, _), (3, _), (4, _), (5, _), (7, _), (9, _), (57, _)], [(2, _), (9, _)]⟩) (Le.sub0 rfl ⟨rfl, rfl, rfl, rfl, rfl, rfl, rfl, rfl, trivial⟩ ⟨rfl, rfl, trivial⟩) ?_
      refine AWl.put (R_assign rfl (.no rfl) rfl (.const rfl)) rfl ?_
      refine AWl.nil ?_
      refine AW.ret ?_
      refine Res.many rfl (.cell rfl rfl ty51 rfl rfl (.tmp rfl .nil)) rfl ?_ (by simp)
      rw [parseE_syes (by rw [hab, hx]) h57]; rfl
end Go.Proofs.YtoealglkenhphaaDoor
