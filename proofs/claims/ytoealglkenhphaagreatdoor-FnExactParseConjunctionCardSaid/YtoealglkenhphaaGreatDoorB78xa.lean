/- Tokens, expressions, conjunctions written out: both texts. -/
import Derived.Test.YtoealglkenhphaaGreatDoorB77xa
import Derived.Test.YtoealglkenhphaaGreatDoorB84xa
set_option linter.unusedVariables false
set_option linter.unusedSimpArgs false
set_option maxHeartbeats 1000000
set_option maxRecDepth 100000
namespace Go.Q
open Go.D
theorem conj_step {q : TConjunction} {k : Nat} {x : TPathAtom} {O : ByteArray} (hx : q.Atoms[k]? = some x) (he : O = bs (joinL [59] ((q.Atoms.take k).map fmtAtom))) (hk0 : k ≠ 0) : ((((((O ++ ⟨#[59]⟩) ++ bs (numS x.From)) ++ ⟨#[58]⟩) ++ bs (numS x.To)) ++ ⟨#[32]⟩) ++ bs (fmtExpr x.Expr)) = bs (joinL [59] ((q.Atoms.take (k + 1)).map fmtAtom)) := by
  rw [joinL_at _ hx, if_neg hk0, he, show (⟨#[59]⟩ : ByteArray) = bs [59] from rfl, show (⟨#[58]⟩ : ByteArray) = bs [58] from rfl, show (⟨#[32]⟩ : ByteArray) = bs [32] from rfl]
  unfold fmtAtom
  generalize joinL [59] ((q.Atoms.take k).map fmtAtom) = J
  generalize fmtExpr x.Expr = E0
  generalize numS x.From = A0
  generalize numS x.To = B0
  rw [bs_append, bs_append, bs_append, bs_append, bs_append, bs_append]
  congr 1
  simp only [List.append_assoc]
theorem conj_step0 {q : TConjunction} {k : Nat} {x : TPathAtom} {O : ByteArray} (hx : q.Atoms[k]? = some x) (he : O = bs (joinL [59] ((q.Atoms.take k).map fmtAtom))) (hk0 : k = 0) : (((((O ++ bs (numS x.From)) ++ ⟨#[58]⟩) ++ bs (numS x.To)) ++ ⟨#[32]⟩) ++ bs (fmtExpr x.Expr)) = bs (joinL [59] ((q.Atoms.take (k + 1)).map fmtAtom)) := by
  rw [joinL_at _ hx, if_pos hk0, he, hk0, List.take_zero, List.map_nil, joinL_nil, show (⟨#[58]⟩ : ByteArray) = bs [58] from rfl, show (⟨#[32]⟩ : ByteArray) = bs [32] from rfl]
  unfold fmtAtom
  generalize fmtExpr x.Expr = E0
  generalize numS x.From = A0
  generalize numS x.To = B0
  rw [bs_append, bs_append, bs_append, bs_append, bs_append, List.nil_append]
end Go.Q
namespace Go.Proofs.YtoealglkenhphaaGreatDoor
open Go.RowKit Go.Q Go.D
theorem impltokenText (t : TToken) (h : 0 ≤ arity t) : FnT Tryz.prog 52 [.agg (cToken t)] (.a (.one (.v (.string (bs (tokS t)))))) := by
  refine FnT.walk Tryz.func52 rfl (by kernel_rfl) Tryz.ntmps52 rfl fun hlen w0 => ?_
  try simp [cPair, cToken, cExpr, cEdge, cGraph, cStep, cWalk, cChange, cBatch, cHistory, cPositions, cAutomaton, cProductStep, cPathAtom, cConjunction, cView, cDelta, cRegistered, cRegistry] at hlen
  skip
  have e1 : (⟨#[123]⟩ : ByteArray).size = 1 := rfl
  have e2 : (⟨#[44]⟩ : ByteArray).size = 1 := rfl
  have e3 : (⟨#[125]⟩ : ByteArray).size = 1 := rfl
  refine AW.seq ?_
  refine AW.region ?_
  refine AWl.put (R_boxz rfl rfl rfl (.tmp rfl fun _ => rfl) (ts := _) (by first | rfl | exact cells_t1 _ | exact cells_t2 _)) rfl ?_
  refine AWl.put (R_assign rfl (.no rfl) rfl (.const rfl)) rfl ?_
  refine AWl.nil ?_
  refine AW.seq ?_
  refine AW.seq ?_
  refine AW.region ?_
  refine AWl.put ((by first | exact R_fieldAddr rfl (.no rfl) rfl (.tmp rfl fun _ => rfl) fl48_0 | exact R_fieldAddr_pp rfl (.no rfl) rfl (.tmp rfl fun _ => rfl) fl48_0 | exact R_fieldAddr_vw rfl (.no rfl) rfl (.tmp rfl fun _ => rfl) fl48_0 | exact R_fieldAddr_pr rfl (.no rfl) rfl (.tmp rfl fun _ => rfl) fl48_0)) rfl ?_
  refine AWl.put ((by first | exact R_load rfl (.no rfl) rfl (.tmp rfl fun _ => rfl) ty3 rfl rfl | exact R_load_pp rfl (.no rfl) rfl (.tmp rfl fun _ => rfl) rfl ty3 rfl rfl | exact R_load_vw rfl (.no rfl) rfl (.tmp rfl fun _ => rfl) ty3 rfl rfl | exact R_load_pr rfl (.no rfl) rfl (.tmp rfl fun _ => rfl) rfl (by first | assumption | exact map_get (by assumption)) ty3 rfl rfl)) rfl ?_
  refine AWl.nil ?_
  refine AW.block ?_
  refine AW.seq ?_
  refine AW.region ?_
  refine AWl.put (R_eq rfl (.no rfl) rfl (.tmp rfl fun _ => rfl) (.const rfl)) rfl ?_
  refine AWl.put (R_assign rfl (.no rfl) rfl (.tmp rfl fun _ => rfl)) rfl ?_
  refine AWl.nil ?_
  refine AW.cond (.tmp rfl fun _ => rfl) (fun h5 => ?_) (fun h5 => ?_)
  · skip
    try simp at h5
    refine AW.seq ?_
    refine AW.region ?_
    refine AWl.put (R_assign rfl (.no rfl) rfl (.const rfl)) rfl ?_
    refine AWl.nil ?_
    refine AW.ret ?_
    refine Res.v rfl rfl ?_
    (unfold tokS; rw [if_pos h5]; rfl)
  · skip
    try simp at h5
    refine AW.seq ?_
    refine AW.region ?_
    refine AWl.put (R_eq rfl (.no rfl) rfl (.tmp rfl fun _ => rfl) (.const rfl)) rfl ?_
    refine AWl.put (R_assign rfl (.no rfl) rfl (.tmp rfl fun _ => rfl)) rfl ?_
    refine AWl.nil ?_
    refine AW.cond (.tmp rfl fun _ => rfl) (fun h7 => ?_) (fun h7 => ?_)
    · skip
      try simp at h7
      refine AW.seq ?_
      refine AW.region ?_
      refine AWl.put (R_assign rfl (.no rfl) rfl (.const rfl)) rfl ?_
      refine AWl.nil ?_
      refine AW.ret ?_
      refine Res.v rfl rfl ?_
      (unfold tokS; rw [if_neg h5, if_pos h7]; rfl)
    · skip
      try simp at h7
      refine AW.seq ?_
      refine AW.region ?_
      refine AWl.put (R_eq rfl (.no rfl) rfl (.tmp rfl fun _ => rfl) (.const rfl)) rfl ?_
      refine AWl.put (R_assign rfl (.no rfl) rfl (.tmp rfl fun _ => rfl)) rfl ?_
      refine AWl.nil ?_
      refine AW.cond (.tmp rfl fun _ => rfl) (fun h9 => ?_) (fun h9 => ?_)
      · skip
        try simp at h9
        refine AW.seq ?_
        refine AW.le (σ' := ⟨_, [(0, _), (1, _), (2, _), (4, _)], []⟩) (Le.sub0 rfl ⟨rfl, rfl, rfl, rfl, trivial⟩ trivial) ?_
        refine AW.region ?_
        refine AWl.put ((by first | exact R_fieldAddr rfl (.no rfl) rfl (.tmp rfl fun _ => rfl) fl48_1 | exact R_fieldAddr_pp rfl (.no rfl) rfl (.tmp rfl fun _ => rfl) fl48_1 | exact R_fieldAddr_vw rfl (.no rfl) rfl (.tmp rfl fun _ => rfl) fl48_1 | exact R_fieldAddr_pr rfl (.no rfl) rfl (.tmp rfl fun _ => rfl) fl48_1)) rfl ?_
        refine AWl.put ((by first | exact R_load rfl (.no rfl) rfl (.tmp rfl fun _ => rfl) ty3 rfl rfl | exact R_load_pp rfl (.no rfl) rfl (.tmp rfl fun _ => rfl) rfl ty3 rfl rfl | exact R_load_vw rfl (.no rfl) rfl (.tmp rfl fun _ => rfl) ty3 rfl rfl | exact R_load_pr rfl (.no rfl) rfl (.tmp rfl fun _ => rfl) rfl (by first | assumption | exact map_get (by assumption)) ty3 rfl rfl)) rfl ?_
        refine AWl.put (R_callz (FnT.fr (implFormatLetter t.Letter (tok_let h h9).1 (tok_let h h9).2)) rfl (.no rfl) rfl (.cons (.tmp rfl fun _ => rfl) rfl .nil)) rfl ?_
        refine AWl.put (R_assign rfl (.no rfl) rfl (.tmp rfl fun _ => rfl)) rfl ?_
        refine AWl.nil ?_
        refine AW.ret ?_
        refine Res.v rfl rfl ?_
        (unfold tokS; rw [if_neg h5, if_neg h7, if_pos h9])
      · skip
        try simp at h9
        refine AW.seq ?_
        refine AW.le (σ' := ⟨_, [(0, _), (1, _), (2, _), (4, _)], []⟩) (Le.sub0 rfl ⟨rfl, rfl, rfl, rfl, trivial⟩ trivial) ?_
        refine AW.region ?_
        refine AWl.put (R_eq rfl (.no rfl) rfl (.tmp rfl fun _ => rfl) (.const rfl)) rfl ?_
        refine AWl.put (R_assign rfl (.no rfl) rfl (.tmp rfl fun _ => rfl)) rfl ?_
        refine AWl.nil ?_
        refine AW.cond (.tmp rfl fun _ => rfl) (fun h14 => ?_) (fun h14 => ?_)
        · skip
          try simp at h14
          refine AW.seq ?_
          refine AW.region ?_
          refine AWl.put (R_assign rfl (.no rfl) rfl (.const rfl)) rfl ?_
          refine AWl.nil ?_
          refine AW.ret ?_
          refine Res.v rfl rfl ?_
          (unfold tokS; rw [if_neg h5, if_neg h7, if_neg h9, if_pos h14]; rfl)
        · skip
          try simp at h14
          refine AW.seq ?_
          refine AW.region ?_
          refine AWl.put (R_eq rfl (.no rfl) rfl (.tmp rfl fun _ => rfl) (.const rfl)) rfl ?_
          refine AWl.put (R_assign rfl (.no rfl) rfl (.tmp rfl fun _ => rfl)) rfl ?_
          refine AWl.nil ?_
          refine AW.cond (.tmp rfl fun _ => rfl) (fun h16 => ?_) (fun h16 => ?_)
          · skip
            try simp at h16
            refine AW.seq ?_
            refine AW.region ?_
            refine AWl.put (R_assign rfl (.no rfl) rfl (.const rfl)) rfl ?_
            refine AWl.nil ?_
            refine AW.ret ?_
            refine Res.v rfl rfl ?_
            (unfold tokS; rw [if_neg h5, if_neg h7, if_neg h9, if_neg h14, if_pos h16]; rfl)
          · skip
            try simp at h16
            refine AW.seq ?_
            refine AW.region ?_
            refine AWl.put (R_eq rfl (.no rfl) rfl (.tmp rfl fun _ => rfl) (.const rfl)) rfl ?_
            refine AWl.put (R_assign rfl (.no rfl) rfl (.tmp rfl fun _ => rfl)) rfl ?_
            refine AWl.nil ?_
            refine AW.cond (.tmp rfl fun _ => rfl) (fun h18 => ?_) (fun h18 => ?_)
            · skip
              try simp at h18
              refine AW.seq ?_
              refine AW.le (σ' := ⟨_, [(0, _), (1, _), (2, _), (4, _)], []⟩) (Le.sub0 rfl ⟨rfl, rfl, rfl, rfl, trivial⟩ trivial) ?_
              refine AW.region ?_
              refine AWl.put (R_assign rfl (.no rfl) rfl (.const rfl)) rfl ?_
              refine AWl.nil ?_
              refine AW.ret ?_
              refine Res.v rfl rfl ?_
              (unfold tokS; rw [if_neg h5, if_neg h7, if_neg h9, if_neg h14, if_neg h16, if_pos h18]; rfl)
            · skip
              try simp at h18
              have hr := tok_rep h h5 h7 h9 h14 h16 h18
              have s1 := numS_len (n := t.Low) (by omega)
              have s2 := numS_len (n := t.High) (by omega)
              refine AW.skip ?_
              refine AW.seq ?_
              refine AW.le (σ' := ⟨_, [(0, _), (1, _), (2, _), (4, _)], []⟩) (Le.sub0 rfl ⟨rfl, rfl, rfl, rfl, trivial⟩ trivial) ?_
              refine AW.drawn 11 (nthB [[], [0], [0, 1], [0, 1, 2], [0, 1, 2, 3], [], [5], [0, 1, 2, 5, 6], [0, 1, 2, 3, 4, 5, 6, 7], [0, 1, 2, 3, 4, 5, 6, 7, 8], [0, 1, 2, 3, 4, 5, 6, 7, 8, 9]]) (by kernel_rfl) (by kernel_rfl) (by kernel_rfl) ?_
              refine DrawC.step rfl rfl rfl (Loc.of rfl fun σ' hs => (by first | exact R_fieldAddr rfl (.no rfl) (hd_sup hs rfl) (.tmp (hs.slots _ _ rfl) fun _ => rfl) fl48_2 | exact R_fieldAddr_pp rfl (.no rfl) (hd_sup hs rfl) (.tmp (hs.slots _ _ rfl) fun _ => rfl) fl48_2 | exact R_fieldAddr_vw rfl (.no rfl) (hd_sup hs rfl) (.tmp (hs.slots _ _ rfl) fun _ => rfl) fl48_2 | exact R_fieldAddr_pr rfl (.no rfl) (hd_sup hs rfl) (.tmp (hs.slots _ _ rfl) fun _ => rfl) fl48_2)) ?_
              refine DrawC.step rfl rfl rfl (Loc.of rfl fun σ' hs => (by first | exact R_load rfl (.no rfl) (hd_sup hs rfl) (.tmp (hs.slots _ _ rfl) fun _ => rfl) ty3 rfl rfl | exact R_load_pp rfl (.no rfl) (hd_sup hs rfl) (.tmp (hs.slots _ _ rfl) fun _ => rfl) (hs.res _ _ rfl) ty3 rfl rfl | exact R_load_vw rfl (.no rfl) (hd_sup hs rfl) (.tmp (hs.slots _ _ rfl) fun _ => rfl) ty3 rfl rfl | exact R_load_pr rfl (.no rfl) (hd_sup hs rfl) (.tmp (hs.slots _ _ rfl) fun _ => rfl) (hs.res _ _ rfl) (by first | assumption | exact map_get (by assumption)) ty3 rfl rfl)) ?_
              refine DrawC.step rfl rfl rfl (Loc.of rfl fun σ' hs => R_callz (FnT.fr (implFormatInt t.Low (by omega) (by omega))) rfl (.no rfl) (hd_sup hs rfl) (.cons (.tmp (hs.slots _ _ rfl) fun _ => rfl) (readA_sup hs rfl) .nil)) ?_
              refine DrawC.step rfl rfl rfl (Loc.of rfl fun σ' hs => R_cat rfl (.no rfl) (hd_sup hs rfl) (.const rfl) (.tmp (hs.slots _ _ rfl) fun _ => rfl) (fun _ => by simp only [ByteArray.size_append, bs_size]; omega)) ?_
              refine DrawC.step rfl rfl rfl (Loc.of rfl fun σ' hs => R_cat rfl (.no rfl) (hd_sup hs rfl) (.tmp (hs.slots _ _ rfl) fun _ => rfl) (.const rfl) (fun _ => by simp only [ByteArray.size_append, bs_size]; omega)) ?_
              refine DrawC.step rfl rfl rfl (Loc.of rfl fun σ' hs => (by first | exact R_fieldAddr rfl (.no rfl) (hd_sup hs rfl) (.tmp (hs.slots _ _ rfl) fun _ => rfl) fl48_3 | exact R_fieldAddr_pp rfl (.no rfl) (hd_sup hs rfl) (.tmp (hs.slots _ _ rfl) fun _ => rfl) fl48_3 | exact R_fieldAddr_vw rfl (.no rfl) (hd_sup hs rfl) (.tmp (hs.slots _ _ rfl) fun _ => rfl) fl48_3 | exact R_fieldAddr_pr rfl (.no rfl) (hd_sup hs rfl) (.tmp (hs.slots _ _ rfl) fun _ => rfl) fl48_3)) ?_
              refine DrawC.step rfl rfl rfl (Loc.of rfl fun σ' hs => (by first | exact R_load rfl (.no rfl) (hd_sup hs rfl) (.tmp (hs.slots _ _ rfl) fun _ => rfl) ty3 rfl rfl | exact R_load_pp rfl (.no rfl) (hd_sup hs rfl) (.tmp (hs.slots _ _ rfl) fun _ => rfl) (hs.res _ _ rfl) ty3 rfl rfl | exact R_load_vw rfl (.no rfl) (hd_sup hs rfl) (.tmp (hs.slots _ _ rfl) fun _ => rfl) ty3 rfl rfl | exact R_load_pr rfl (.no rfl) (hd_sup hs rfl) (.tmp (hs.slots _ _ rfl) fun _ => rfl) (hs.res _ _ rfl) (by first | assumption | exact map_get (by assumption)) ty3 rfl rfl)) ?_
              refine DrawC.step rfl rfl rfl (Loc.of rfl fun σ' hs => R_callz (FnT.fr (implFormatInt t.High (by omega) (by omega))) rfl (.no rfl) (hd_sup hs rfl) (.cons (.tmp (hs.slots _ _ rfl) fun _ => rfl) (readA_sup hs rfl) .nil)) ?_
              refine DrawC.step rfl rfl rfl (Loc.of rfl fun σ' hs => R_cat rfl (.no rfl) (hd_sup hs rfl) (.tmp (hs.slots _ _ rfl) fun _ => rfl) (.tmp (hs.slots _ _ rfl) fun _ => rfl) (fun _ => by simp only [ByteArray.size_append, bs_size]; omega)) ?_
              refine DrawC.step rfl rfl rfl (Loc.of rfl fun σ' hs => R_cat rfl (.no rfl) (hd_sup hs rfl) (.tmp (hs.slots _ _ rfl) fun _ => rfl) (.const rfl) (fun _ => by simp only [ByteArray.size_append, bs_size]; omega)) ?_
              refine DrawC.step rfl rfl rfl (Loc.of rfl fun σ' hs => R_assign rfl (.no rfl) (hd_sup hs rfl) (.tmp (hs.slots _ _ rfl) fun _ => rfl)) ?_
              refine DrawC.fin rfl rfl ?_
              refine AWl.nil ?_
              refine AW.ret ?_
              refine Res.v rfl rfl ?_
              (unfold tokS; rw [if_neg h5, if_neg h7, if_neg h9, if_neg h14, if_neg h16, if_neg h18, show (⟨#[123]⟩ : ByteArray) = bs [123] from rfl, show (⟨#[44]⟩ : ByteArray) = bs [44] from rfl, show (⟨#[125]⟩ : ByteArray) = bs [125] from rfl]; simp only [bs_append])
theorem specl8Token (t : TToken) (h : 0 ≤ arity t) : FnT Tryz.prog 38 [.agg (cToken t)] (.a (.one (.v (.string (bs (tokS t)))))) := by
  refine FnT.walk Tryz.func38 rfl (by kernel_rfl) Tryz.ntmps38 rfl fun hlen w0 => ?_
  try simp [cPair, cToken, cExpr, cEdge, cGraph, cStep, cWalk, cChange, cBatch, cHistory, cPositions, cAutomaton, cProductStep, cPathAtom, cConjunction, cView, cDelta, cRegistered, cRegistry] at hlen
  skip
  have e1 : (⟨#[123]⟩ : ByteArray).size = 1 := rfl
  have e2 : (⟨#[44]⟩ : ByteArray).size = 1 := rfl
  have e3 : (⟨#[125]⟩ : ByteArray).size = 1 := rfl
  refine AW.seq ?_
  refine AW.region ?_
  refine AWl.put (R_boxz rfl rfl rfl (.tmp rfl fun _ => rfl) (ts := _) (by first | rfl | exact cells_t1 _ | exact cells_t2 _)) rfl ?_
  refine AWl.put (R_assign rfl (.no rfl) rfl (.const rfl)) rfl ?_
  refine AWl.nil ?_
  refine AW.seq ?_
  refine AW.seq ?_
  refine AW.region ?_
  refine AWl.put ((by first | exact R_fieldAddr rfl (.no rfl) rfl (.tmp rfl fun _ => rfl) fl48_0 | exact R_fieldAddr_pp rfl (.no rfl) rfl (.tmp rfl fun _ => rfl) fl48_0 | exact R_fieldAddr_vw rfl (.no rfl) rfl (.tmp rfl fun _ => rfl) fl48_0 | exact R_fieldAddr_pr rfl (.no rfl) rfl (.tmp rfl fun _ => rfl) fl48_0)) rfl ?_
  refine AWl.put ((by first | exact R_load rfl (.no rfl) rfl (.tmp rfl fun _ => rfl) ty3 rfl rfl | exact R_load_pp rfl (.no rfl) rfl (.tmp rfl fun _ => rfl) rfl ty3 rfl rfl | exact R_load_vw rfl (.no rfl) rfl (.tmp rfl fun _ => rfl) ty3 rfl rfl | exact R_load_pr rfl (.no rfl) rfl (.tmp rfl fun _ => rfl) rfl (by first | assumption | exact map_get (by assumption)) ty3 rfl rfl)) rfl ?_
  refine AWl.nil ?_
  refine AW.block ?_
  refine AW.seq ?_
  refine AW.region ?_
  refine AWl.put (R_eq rfl (.no rfl) rfl (.tmp rfl fun _ => rfl) (.const rfl)) rfl ?_
  refine AWl.put (R_assign rfl (.no rfl) rfl (.tmp rfl fun _ => rfl)) rfl ?_
  refine AWl.nil ?_
  refine AW.cond (.tmp rfl fun _ => rfl) (fun h5 => ?_) (fun h5 => ?_)
  · skip
    try simp at h5
    refine AW.seq ?_
    refine AW.region ?_
    refine AWl.put (R_assign rfl (.no rfl) rfl (.const rfl)) rfl ?_
    refine AWl.nil ?_
    refine AW.ret ?_
    refine Res.v rfl rfl ?_
    (unfold tokS; rw [if_pos h5]; rfl)
  · skip
    try simp at h5
    refine AW.seq ?_
    refine AW.region ?_
    refine AWl.put (R_eq rfl (.no rfl) rfl (.tmp rfl fun _ => rfl) (.const rfl)) rfl ?_
    refine AWl.put (R_assign rfl (.no rfl) rfl (.tmp rfl fun _ => rfl)) rfl ?_
    refine AWl.nil ?_
    refine AW.cond (.tmp rfl fun _ => rfl) (fun h7 => ?_) (fun h7 => ?_)
    · skip
      try simp at h7
      refine AW.seq ?_
      refine AW.region ?_
      refine AWl.put (R_assign rfl (.no rfl) rfl (.const rfl)) rfl ?_
      refine AWl.nil ?_
      refine AW.ret ?_
      refine Res.v rfl rfl ?_
      (unfold tokS; rw [if_neg h5, if_pos h7]; rfl)
    · skip
      try simp at h7
      refine AW.seq ?_
      refine AW.region ?_
      refine AWl.put (R_eq rfl (.no rfl) rfl (.tmp rfl fun _ => rfl) (.const rfl)) rfl ?_
      refine AWl.put (R_assign rfl (.no rfl) rfl (.tmp rfl fun _ => rfl)) rfl ?_
      refine AWl.nil ?_
      refine AW.cond (.tmp rfl fun _ => rfl) (fun h9 => ?_) (fun h9 => ?_)
      · skip
        try simp at h9
        refine AW.seq ?_
        refine AW.le (σ' := ⟨_, [(0, _), (1, _), (2, _), (4, _)], []⟩) (Le.sub0 rfl ⟨rfl, rfl, rfl, rfl, trivial⟩ trivial) ?_
        refine AW.region ?_
        refine AWl.put ((by first | exact R_fieldAddr rfl (.no rfl) rfl (.tmp rfl fun _ => rfl) fl48_1 | exact R_fieldAddr_pp rfl (.no rfl) rfl (.tmp rfl fun _ => rfl) fl48_1 | exact R_fieldAddr_vw rfl (.no rfl) rfl (.tmp rfl fun _ => rfl) fl48_1 | exact R_fieldAddr_pr rfl (.no rfl) rfl (.tmp rfl fun _ => rfl) fl48_1)) rfl ?_
        refine AWl.put ((by first | exact R_load rfl (.no rfl) rfl (.tmp rfl fun _ => rfl) ty3 rfl rfl | exact R_load_pp rfl (.no rfl) rfl (.tmp rfl fun _ => rfl) rfl ty3 rfl rfl | exact R_load_vw rfl (.no rfl) rfl (.tmp rfl fun _ => rfl) ty3 rfl rfl | exact R_load_pr rfl (.no rfl) rfl (.tmp rfl fun _ => rfl) rfl (by first | assumption | exact map_get (by assumption)) ty3 rfl rfl)) rfl ?_
        refine AWl.put (R_callz (FnT.fr (specFormatLetter t.Letter (tok_let h h9).1 (tok_let h h9).2)) rfl (.no rfl) rfl (.cons (.tmp rfl fun _ => rfl) rfl .nil)) rfl ?_
        refine AWl.put (R_assign rfl (.no rfl) rfl (.tmp rfl fun _ => rfl)) rfl ?_
        refine AWl.nil ?_
        refine AW.ret ?_
        refine Res.v rfl rfl ?_
        (unfold tokS; rw [if_neg h5, if_neg h7, if_pos h9])
      · skip
        try simp at h9
        refine AW.seq ?_
        refine AW.le (σ' := ⟨_, [(0, _), (1, _), (2, _), (4, _)], []⟩) (Le.sub0 rfl ⟨rfl, rfl, rfl, rfl, trivial⟩ trivial) ?_
        refine AW.region ?_
        refine AWl.put (R_eq rfl (.no rfl) rfl (.tmp rfl fun _ => rfl) (.const rfl)) rfl ?_
        refine AWl.put (R_assign rfl (.no rfl) rfl (.tmp rfl fun _ => rfl)) rfl ?_
        refine AWl.nil ?_
        refine AW.cond (.tmp rfl fun _ => rfl) (fun h14 => ?_) (fun h14 => ?_)
        · skip
          try simp at h14
          refine AW.seq ?_
          refine AW.region ?_
          refine AWl.put (R_assign rfl (.no rfl) rfl (.const rfl)) rfl ?_
          refine AWl.nil ?_
          refine AW.ret ?_
          refine Res.v rfl rfl ?_
          (unfold tokS; rw [if_neg h5, if_neg h7, if_neg h9, if_pos h14]; rfl)
        · skip
          try simp at h14
          refine AW.seq ?_
          refine AW.region ?_
          refine AWl.put (R_eq rfl (.no rfl) rfl (.tmp rfl fun _ => rfl) (.const rfl)) rfl ?_
          refine AWl.put (R_assign rfl (.no rfl) rfl (.tmp rfl fun _ => rfl)) rfl ?_
          refine AWl.nil ?_
          refine AW.cond (.tmp rfl fun _ => rfl) (fun h16 => ?_) (fun h16 => ?_)
          · skip
            try simp at h16
            refine AW.seq ?_
            refine AW.region ?_
            refine AWl.put (R_assign rfl (.no rfl) rfl (.const rfl)) rfl ?_
            refine AWl.nil ?_
            refine AW.ret ?_
            refine Res.v rfl rfl ?_
            (unfold tokS; rw [if_neg h5, if_neg h7, if_neg h9, if_neg h14, if_pos h16]; rfl)
          · skip
            try simp at h16
            refine AW.seq ?_
            refine AW.region ?_
            refine AWl.put (R_eq rfl (.no rfl) rfl (.tmp rfl fun _ => rfl) (.const rfl)) rfl ?_
            refine AWl.put (R_assign rfl (.no rfl) rfl (.tmp rfl fun _ => rfl)) rfl ?_
            refine AWl.nil ?_
            refine AW.cond (.tmp rfl fun _ => rfl) (fun h18 => ?_) (fun h18 => ?_)
            · skip
              try simp at h18
              refine AW.seq ?_
              refine AW.le (σ' := ⟨_, [(0, _), (1, _), (2, _), (4, _)], []⟩) (Le.sub0 rfl ⟨rfl, rfl, rfl, rfl, trivial⟩ trivial) ?_
              refine AW.region ?_
              refine AWl.put (R_assign rfl (.no rfl) rfl (.const rfl)) rfl ?_
              refine AWl.nil ?_
              refine AW.ret ?_
              refine Res.v rfl rfl ?_
              (unfold tokS; rw [if_neg h5, if_neg h7, if_neg h9, if_neg h14, if_neg h16, if_pos h18]; rfl)
            · skip
              try simp at h18
              have hr := tok_rep h h5 h7 h9 h14 h16 h18
              have s1 := numS_len (n := t.Low) (by omega)
              have s2 := numS_len (n := t.High) (by omega)
              refine AW.skip ?_
              refine AW.seq ?_
              refine AW.le (σ' := ⟨_, [(0, _), (1, _), (2, _), (4, _)], []⟩) (Le.sub0 rfl ⟨rfl, rfl, rfl, rfl, trivial⟩ trivial) ?_
              refine AW.drawn 11 (nthB [[], [0], [0, 1], [0, 1, 2], [0, 1, 2, 3], [], [5], [0, 1, 2, 5, 6], [0, 1, 2, 3, 4, 5, 6, 7], [0, 1, 2, 3, 4, 5, 6, 7, 8], [0, 1, 2, 3, 4, 5, 6, 7, 8, 9]]) (by kernel_rfl) (by kernel_rfl) (by kernel_rfl) ?_
              refine DrawC.step rfl rfl rfl (Loc.of rfl fun σ' hs => (by first | exact R_fieldAddr rfl (.no rfl) (hd_sup hs rfl) (.tmp (hs.slots _ _ rfl) fun _ => rfl) fl48_2 | exact R_fieldAddr_pp rfl (.no rfl) (hd_sup hs rfl) (.tmp (hs.slots _ _ rfl) fun _ => rfl) fl48_2 | exact R_fieldAddr_vw rfl (.no rfl) (hd_sup hs rfl) (.tmp (hs.slots _ _ rfl) fun _ => rfl) fl48_2 | exact R_fieldAddr_pr rfl (.no rfl) (hd_sup hs rfl) (.tmp (hs.slots _ _ rfl) fun _ => rfl) fl48_2)) ?_
              refine DrawC.step rfl rfl rfl (Loc.of rfl fun σ' hs => (by first | exact R_load rfl (.no rfl) (hd_sup hs rfl) (.tmp (hs.slots _ _ rfl) fun _ => rfl) ty3 rfl rfl | exact R_load_pp rfl (.no rfl) (hd_sup hs rfl) (.tmp (hs.slots _ _ rfl) fun _ => rfl) (hs.res _ _ rfl) ty3 rfl rfl | exact R_load_vw rfl (.no rfl) (hd_sup hs rfl) (.tmp (hs.slots _ _ rfl) fun _ => rfl) ty3 rfl rfl | exact R_load_pr rfl (.no rfl) (hd_sup hs rfl) (.tmp (hs.slots _ _ rfl) fun _ => rfl) (hs.res _ _ rfl) (by first | assumption | exact map_get (by assumption)) ty3 rfl rfl)) ?_
              refine DrawC.step rfl rfl rfl (Loc.of rfl fun σ' hs => R_callz (FnT.fr (specFormatInt t.Low (by omega) (by omega))) rfl (.no rfl) (hd_sup hs rfl) (.cons (.tmp (hs.slots _ _ rfl) fun _ => rfl) (readA_sup hs rfl) .nil)) ?_
              refine DrawC.step rfl rfl rfl (Loc.of rfl fun σ' hs => R_cat rfl (.no rfl) (hd_sup hs rfl) (.const rfl) (.tmp (hs.slots _ _ rfl) fun _ => rfl) (fun _ => by simp only [ByteArray.size_append, bs_size]; omega)) ?_
              refine DrawC.step rfl rfl rfl (Loc.of rfl fun σ' hs => R_cat rfl (.no rfl) (hd_sup hs rfl) (.tmp (hs.slots _ _ rfl) fun _ => rfl) (.const rfl) (fun _ => by simp only [ByteArray.size_append, bs_size]; omega)) ?_
              refine DrawC.step rfl rfl rfl (Loc.of rfl fun σ' hs => (by first | exact R_fieldAddr rfl (.no rfl) (hd_sup hs rfl) (.tmp (hs.slots _ _ rfl) fun _ => rfl) fl48_3 | exact R_fieldAddr_pp rfl (.no rfl) (hd_sup hs rfl) (.tmp (hs.slots _ _ rfl) fun _ => rfl) fl48_3 | exact R_fieldAddr_vw rfl (.no rfl) (hd_sup hs rfl) (.tmp (hs.slots _ _ rfl) fun _ => rfl) fl48_3 | exact R_fieldAddr_pr rfl (.no rfl) (hd_sup hs rfl) (.tmp (hs.slots _ _ rfl) fun _ => rfl) fl48_3)) ?_
              refine DrawC.step rfl rfl rfl (Loc.of rfl fun σ' hs => (by first | exact R_load rfl (.no rfl) (hd_sup hs rfl) (.tmp (hs.slots _ _ rfl) fun _ => rfl) ty3 rfl rfl | exact R_load_pp rfl (.no rfl) (hd_sup hs rfl) (.tmp (hs.slots _ _ rfl) fun _ => rfl) (hs.res _ _ rfl) ty3 rfl rfl | exact R_load_vw rfl (.no rfl) (hd_sup hs rfl) (.tmp (hs.slots _ _ rfl) fun _ => rfl) ty3 rfl rfl | exact R_load_pr rfl (.no rfl) (hd_sup hs rfl) (.tmp (hs.slots _ _ rfl) fun _ => rfl) (hs.res _ _ rfl) (by first | assumption | exact map_get (by assumption)) ty3 rfl rfl)) ?_
              refine DrawC.step rfl rfl rfl (Loc.of rfl fun σ' hs => R_callz (FnT.fr (specFormatInt t.High (by omega) (by omega))) rfl (.no rfl) (hd_sup hs rfl) (.cons (.tmp (hs.slots _ _ rfl) fun _ => rfl) (readA_sup hs rfl) .nil)) ?_
              refine DrawC.step rfl rfl rfl (Loc.of rfl fun σ' hs => R_cat rfl (.no rfl) (hd_sup hs rfl) (.tmp (hs.slots _ _ rfl) fun _ => rfl) (.tmp (hs.slots _ _ rfl) fun _ => rfl) (fun _ => by simp only [ByteArray.size_append, bs_size]; omega)) ?_
              refine DrawC.step rfl rfl rfl (Loc.of rfl fun σ' hs => R_cat rfl (.no rfl) (hd_sup hs rfl) (.tmp (hs.slots _ _ rfl) fun _ => rfl) (.const rfl) (fun _ => by simp only [ByteArray.size_append, bs_size]; omega)) ?_
              refine DrawC.step rfl rfl rfl (Loc.of rfl fun σ' hs => R_assign rfl (.no rfl) (hd_sup hs rfl) (.tmp (hs.slots _ _ rfl) fun _ => rfl)) ?_
              refine DrawC.fin rfl rfl ?_
              refine AWl.nil ?_
              refine AW.ret ?_
              refine Res.v rfl rfl ?_
              (unfold tokS; rw [if_neg h5, if_neg h7, if_neg h9, if_neg h14, if_neg h16, if_neg h18, show (⟨#[123]⟩ : ByteArray) = bs [123] from rfl, show (⟨#[44]⟩ : ByteArray) = bs [44] from rfl, show (⟨#[125]⟩ : ByteArray) = bs [125] from rfl]; simp only [bs_append])
theorem implFormatExpr (e : TExpr) : FnT Tryz.prog 31 [.agg (cExpr e)] (.a (.one (.v (.string (bs (fmtExpr e)))))) := by
  refine FnT.walk Tryz.func31 rfl (by kernel_rfl) Tryz.ntmps31 rfl fun hlen w0 => ?_
  try simp [cPair, cToken, cExpr, cEdge, cGraph, cStep, cWalk, cChange, cBatch, cHistory, cPositions, cAutomaton, cProductStep, cPathAtom, cConjunction, cView, cDelta, cRegistered, cRegistry] at hlen
  skip
  refine AW.seq ?_
  refine AW.region ?_
  refine AWl.put (R_boxz rfl rfl rfl (.tmp rfl fun _ => rfl) (ts := _) (by first | rfl | exact cells_t1 _ | exact cells_t2 _)) rfl ?_
  refine AWl.put (R_assign rfl (.no rfl) rfl (.const rfl)) rfl ?_
  refine AWl.nil ?_
  refine AW.seq ?_
  refine AW.seq ?_
  refine AW.region ?_
  refine AWl.put ((by first | exact R_load rfl (.no rfl) rfl (.tmp rfl fun _ => rfl) ty34 rfl rfl | exact R_load_pp rfl (.no rfl) rfl (.tmp rfl fun _ => rfl) rfl ty34 rfl rfl | exact R_load_vw rfl (.no rfl) rfl (.tmp rfl fun _ => rfl) ty34 rfl rfl | exact R_load_pr rfl (.no rfl) rfl (.tmp rfl fun _ => rfl) rfl (map_get ht) ty34 rfl rfl)) rfl ?_
  refine AWl.put (R_callz (FnT.fr (implIsValidExpr e)) rfl (.no rfl) rfl (.cons (.tmp rfl fun _ => rfl) rfl .nil)) rfl ?_
  refine AWl.put (R_not rfl (.no rfl) rfl (.tmp rfl fun _ => rfl)) rfl ?_
  refine AWl.nil ?_
  refine AW.cond (.tmp rfl fun _ => rfl) (fun h8 => ?_) (fun h8 => ?_)
  · skip
    try simp at h8
    refine AW.seq ?_
    refine AW.region ?_
    refine AWl.put (R_assign rfl (.no rfl) rfl (.const rfl)) rfl ?_
    refine AWl.nil ?_
    refine AW.ret ?_
    refine Res.v rfl rfl ?_
    (unfold fmtExpr; rw [if_neg (by simpa using h8)]; rfl)
  · skip
    try simp at h8
    have hv : isValidExpr e = true := by simpa using h8
    have hvt := valid_toks hv
    refine AW.skip ?_
    refine AW.seq ?_
    refine AW.region ?_
    refine AWl.add (R_empty 9 rfl rfl rfl Tryz.underlying30 ty9 rfl) rfl ?_
    refine AWl.put (R_assign rfl (.no rfl) rfl (.tmp rfl fun _ => rfl)) rfl ?_
    refine AWl.nil ?_
    refine AW.seq ?_
    refine AW.seq ?_
    refine AW.region ?_
    refine AWl.put ((by first | exact R_fieldAddr rfl (.no rfl) rfl (.tmp rfl fun _ => rfl) fl34_0 | exact R_fieldAddr_pp rfl (.no rfl) rfl (.tmp rfl fun _ => rfl) fl34_0 | exact R_fieldAddr_vw rfl (.no rfl) rfl (.tmp rfl fun _ => rfl) fl34_0 | exact R_fieldAddr_pr rfl (.no rfl) rfl (.tmp rfl fun _ => rfl) fl34_0)) rfl ?_
    refine AWl.put ((by first | exact R_load rfl (.no rfl) rfl (.tmp rfl fun _ => rfl) ty32 rfl rfl | exact R_load_pp rfl (.no rfl) rfl (.tmp rfl fun _ => rfl) rfl ty32 rfl rfl | exact R_load_vw rfl (.no rfl) rfl (.tmp rfl fun _ => rfl) ty32 rfl rfl | exact R_load_pr rfl (.no rfl) rfl (.tmp rfl fun _ => rfl) rfl (map_get ht) ty32 rfl rfl)) rfl ?_
    refine AWl.put ((by first | exact R_lenm rfl (.no rfl) rfl (.tmp rfl fun _ => rfl) (by first | exact .t | exact .rf rfl | exact .vw | exact .nil) Tryz.underlying32 | exact R_len rfl (.no rfl) rfl (.tmp rfl fun _ => rfl) (by first | exact .t | exact .rf rfl | exact .vw | exact .nil) Tryz.underlying32)) rfl ?_
    refine AWl.put (R_move rfl (.no rfl) rfl (.const rfl)) rfl ?_
    refine AWl.nil ?_
    refine AW.block ?_
    refine AW.loop1 (fun (k : Nat) => (k ≤ e.Tokens.length) ∧ True) (fun (k : Nat) => ⟨_, [(13, (true, .a (.one (.t (.v (.int .i64 (k : Nat))))))), (3, (true, .a (.one (.rf 9)))), (2, _), (11, _), (12, _)], [(9, .row 1 (((e.Tokens.take k).map tokS).map cStr))]⟩) (fun (k : Nat) => e.Tokens.length - k) (0) ⟨Nat.zero_le _, trivial⟩ (Le.sub0 rfl ⟨rfl, rfl, rfl, rfl, rfl, trivial⟩ ⟨rfl, trivial⟩) ?_
    rintro k ⟨hk, he⟩
    refine AW.seq ?_
    refine AW.region ?_
    refine AWl.put (R_lt rfl (.no rfl) rfl (.tmp rfl fun _ => rfl) (.tmp rfl fun _ => rfl)) rfl ?_
    refine AWl.nil ?_
    refine AW.seq ?_
    refine AW.cond (.tmp rfl fun _ => rfl) (fun h14 => ?_) (fun h14 => ?_)
    · skip
      try simp at h14
      obtain ⟨t, ht⟩ : ∃ ξ, e.Tokens[k]? = some ξ := ⟨_, List.getElem?_eq_getElem (by omega)⟩
      refine AW.skip ?_
      refine AW.seq ?_
      refine AW.block ?_
      refine AW.seq ?_
      refine AW.region ?_
      refine AWl.put ((by first | exact R_indexAddr rfl (.no rfl) rfl (.tmp rfl fun _ => rfl) (.tmp rfl fun _ => rfl) Tryz.underlying32 ty48 (fun _ => ⟨by omega, (map_get ht)⟩) | exact R_indexAddr_vw rfl (.no rfl) rfl (.tmp rfl fun _ => rfl) (.tmp rfl fun _ => rfl) Tryz.underlying32 ty48 (fun _ => ⟨by omega, (map_get ht)⟩) | exact R_indexAddr_rf rfl (.no rfl) rfl (.tmp rfl fun _ => rfl) rfl (.tmp rfl fun _ => rfl) Tryz.underlying32 ty48 (fun _ => ⟨by omega, (map_get ht)⟩))) rfl ?_
      refine AWl.put ((by first | exact R_load rfl (.no rfl) rfl (.tmp rfl fun _ => rfl) ty48 rfl rfl | exact R_load_pp rfl (.no rfl) rfl (.tmp rfl fun _ => rfl) rfl ty48 rfl rfl | exact R_load_vw rfl (.no rfl) rfl (.tmp rfl fun _ => rfl) ty48 rfl rfl | exact R_load_pr rfl (.no rfl) rfl (.tmp rfl fun _ => rfl) rfl (map_get ht) ty48 rfl rfl)) rfl ?_
      refine AWl.add (R_alloc 5 rfl rfl rfl in48 rfl rfl rfl) rfl ?_
      refine AWl.chgb (R_store_pb rfl rfl rfl (.tmp rfl fun _ => rfl) (.tmp rfl fun _ => rfl) rfl ty48 rfl rfl rfl (by kernel_rfl) rfl) ?_
      refine AWl.nil ?_
      refine AW.region ?_
      refine AWl.put (R_move rfl (.no rfl) rfl (.tmp rfl fun _ => rfl)) rfl ?_
      refine AWl.put ((by first | exact R_load rfl (.no rfl) rfl (.tmp rfl fun _ => rfl) ty48 rfl rfl | exact R_load_pp rfl (.no rfl) rfl (.tmp rfl fun _ => rfl) rfl ty48 rfl rfl | exact R_load_vw rfl (.no rfl) rfl (.tmp rfl fun _ => rfl) ty48 rfl rfl | exact R_load_pr rfl (.no rfl) rfl (.tmp rfl fun _ => rfl) rfl (map_get ht) ty48 rfl rfl)) rfl ?_
      refine AWl.put (R_callz (FnT.fr (impltokenText t (hvt.2 t (List.mem_of_getElem? ht)))) rfl (.no rfl) rfl (.cons (.tmp rfl fun _ => rfl) rfl .nil)) rfl ?_
      refine AWl.put (R_listz (xs := [.tmp 19]) (rows := [[.v (.string (bs (tokS t)))]]) rfl rfl rfl (.cons (.tmp rfl fun _ => rfl) rfl rfl .nil) Tryz.underlying30 in9 rfl rfl (rfl)) rfl ?_
      refine AWl.chgput (R_append rfl rfl rfl (.tmp rfl fun _ => rfl) rfl (.tmp rfl fun _ => rfl) (by first | exact .t | exact .rf rfl | exact .vw | exact .nil) (by first | rfl | exact isV_map (fun _ => rfl) _ | exact isV_part (fun _ => rfl) _ _ _) Tryz.underlying30 in9 rfl (by first | omega | (simp [chunk]; omega) | (simp only [List.length_map, List.length_append, List.length_cons, List.length_nil, chunk]; omega)) (by first | omega | (unfold maxLen; omega) | (unfold maxLen; simp [chunk]; omega) | (unfold maxLen; simp only [List.length_map, List.length_append, List.length_cons, List.length_nil, chunk]; omega))) rfl ?_
      refine AWl.le (σ' := ⟨_, [(2, _), (3, _), (5, _), (11, _), (12, _), (13, _), (14, _), (21, _)], [(9, _), (5, _)]⟩) (Le.sub0 rfl ⟨rfl, rfl, rfl, rfl, rfl, rfl, rfl, rfl, trivial⟩ ⟨rfl, rfl, trivial⟩) ?_
      refine AWl.put (R_assign rfl (.no rfl) rfl (.tmp rfl fun _ => rfl)) rfl ?_
      refine AWl.nil ?_
      refine AW.region ?_
      refine AWl.put (R_add rfl (.no rfl) rfl (.tmp rfl fun _ => rfl) (.const rfl) (fun _ => by omega)) rfl ?_
      refine AWl.put (R_move rfl (.no rfl) rfl (.tmp rfl fun _ => rfl)) rfl ?_
      refine AWl.nil ?_
      repeat (with_reducible refine BlockQ.nor ?_)
      refine Round1.next (k + 1) ⟨by omega, trivial⟩ (by omega) (Le.sub0 rfl ⟨rfl, rfl, rfl, rfl, rfl, trivial⟩ ⟨(by refine congrArg (fun r => some (R.row 1 r)) ?_; rw [take_at ht]; simp [chunk, cStr]; done), trivial⟩)
    · skip
      try simp at h14
      refine AW.exit ?_
      refine AW.seq ?_
      refine AW.le (σ' := ⟨_, [(2, _), (3, _), (11, _), (12, _), (13, _)], [(9, .row 1 ((e.Tokens.map tokS).map cStr))]⟩) (Le.sub0 rfl ⟨rfl, rfl, rfl, rfl, rfl, trivial⟩ ⟨by rw [List.take_of_length_le (l := e.Tokens) (by omega)]; rfl, trivial⟩) ?_
      refine AW.region ?_
      refine AWl.put (R_move rfl (.no rfl) rfl (.tmp rfl fun _ => rfl)) rfl ?_
      refine AWl.put (R_callz (FnT.fr (stringsJoin (e.Tokens.map tokS) [32] (by have := joinL_len (sep := [32]) (b := 8) (f := tokS) (l := e.Tokens) fun t ht => tokS_len (hvt.2 t ht); simp at this; omega) (by rw [List.length_map]; omega))) rfl (.no rfl) rfl (.cons (.tmp rfl fun _ => rfl) rfl (.cons (.const rfl) rfl .nil))) rfl ?_
      refine AWl.put (R_assign rfl (.no rfl) rfl (.tmp rfl fun _ => rfl)) rfl ?_
      refine AWl.nil ?_
      refine AW.ret ?_
      refine Res.v rfl rfl ?_
      (unfold fmtExpr; rw [if_pos hv])
theorem specFormatExpr (e : TExpr) : FnT Tryz.prog 24 [.agg (cExpr e)] (.a (.one (.v (.string (bs (fmtExpr e)))))) := by
  refine FnT.walk Tryz.func24 rfl (by kernel_rfl) Tryz.ntmps24 rfl fun hlen w0 => ?_
  try simp [cPair, cToken, cExpr, cEdge, cGraph, cStep, cWalk, cChange, cBatch, cHistory, cPositions, cAutomaton, cProductStep, cPathAtom, cConjunction, cView, cDelta, cRegistered, cRegistry] at hlen
  skip
  refine AW.seq ?_
  refine AW.region ?_
  refine AWl.put (R_boxz rfl rfl rfl (.tmp rfl fun _ => rfl) (ts := _) (by first | rfl | exact cells_t1 _ | exact cells_t2 _)) rfl ?_
  refine AWl.put (R_assign rfl (.no rfl) rfl (.const rfl)) rfl ?_
  refine AWl.nil ?_
  refine AW.seq ?_
  refine AW.seq ?_
  refine AW.region ?_
  refine AWl.put ((by first | exact R_load rfl (.no rfl) rfl (.tmp rfl fun _ => rfl) ty34 rfl rfl | exact R_load_pp rfl (.no rfl) rfl (.tmp rfl fun _ => rfl) rfl ty34 rfl rfl | exact R_load_vw rfl (.no rfl) rfl (.tmp rfl fun _ => rfl) ty34 rfl rfl | exact R_load_pr rfl (.no rfl) rfl (.tmp rfl fun _ => rfl) rfl (map_get ht) ty34 rfl rfl)) rfl ?_
  refine AWl.put (R_callz (FnT.fr (specIsValidExpr e)) rfl (.no rfl) rfl (.cons (.tmp rfl fun _ => rfl) rfl .nil)) rfl ?_
  refine AWl.put (R_not rfl (.no rfl) rfl (.tmp rfl fun _ => rfl)) rfl ?_
  refine AWl.nil ?_
  refine AW.cond (.tmp rfl fun _ => rfl) (fun h7 => ?_) (fun h7 => ?_)
  · skip
    try simp at h7
    refine AW.seq ?_
    refine AW.region ?_
    refine AWl.put (R_assign rfl (.no rfl) rfl (.const rfl)) rfl ?_
    refine AWl.nil ?_
    refine AW.ret ?_
    refine Res.v rfl rfl ?_
    (unfold fmtExpr; rw [if_neg (by simpa using h7)]; rfl)
  · skip
    try simp at h7
    have hv : isValidExpr e = true := by simpa using h7
    have hvt := valid_toks hv
    refine AW.skip ?_
    refine AW.seq ?_
    refine AW.region ?_
    refine AWl.put (R_assign rfl (.no rfl) rfl (.const rfl)) rfl ?_
    refine AWl.nil ?_
    refine AW.seq ?_
    refine AW.seq ?_
    refine AW.region ?_
    refine AWl.put (R_assign rfl (.no rfl) rfl (.const rfl)) rfl ?_
    refine AWl.nil ?_
    refine AW.block ?_
    refine AW.loop2 (fun (k : Nat) (O : ByteArray) => (k ≤ e.Tokens.length) ∧ O = bs (joinL [32] ((e.Tokens.take k).map tokS))) (fun (k : Nat) (O : ByteArray) => ⟨_, [(4, (true, .a (.one (.t (.v (.int .i64 (k : Nat))))))), (3, (true, .a (.one (.t (.v (.string O)))))), (1, _), (2, _)], []⟩) (fun (k : Nat) (O : ByteArray) => e.Tokens.length - k) (0) (⟨#[]⟩) ⟨Nat.zero_le _, (by simp [joinL_nil]; rfl)⟩ (Le.sub0 rfl ⟨rfl, rfl, rfl, rfl, trivial⟩ trivial) ?_
    rintro k O ⟨hk, he⟩
    refine AW.seq ?_
    refine AW.seq ?_
    refine AW.region ?_
    refine AWl.put (R_move rfl (.no rfl) rfl (.tmp rfl fun _ => rfl)) rfl ?_
    refine AWl.put ((by first | exact R_fieldAddr rfl (.no rfl) rfl (.tmp rfl fun _ => rfl) fl34_0 | exact R_fieldAddr_pp rfl (.no rfl) rfl (.tmp rfl fun _ => rfl) fl34_0 | exact R_fieldAddr_vw rfl (.no rfl) rfl (.tmp rfl fun _ => rfl) fl34_0 | exact R_fieldAddr_pr rfl (.no rfl) rfl (.tmp rfl fun _ => rfl) fl34_0)) rfl ?_
    refine AWl.put ((by first | exact R_load rfl (.no rfl) rfl (.tmp rfl fun _ => rfl) ty32 rfl rfl | exact R_load_pp rfl (.no rfl) rfl (.tmp rfl fun _ => rfl) rfl ty32 rfl rfl | exact R_load_vw rfl (.no rfl) rfl (.tmp rfl fun _ => rfl) ty32 rfl rfl | exact R_load_pr rfl (.no rfl) rfl (.tmp rfl fun _ => rfl) rfl (map_get ht) ty32 rfl rfl)) rfl ?_
    refine AWl.put ((by first | exact R_lenm rfl (.no rfl) rfl (.tmp rfl fun _ => rfl) (by first | exact .t | exact .rf rfl | exact .vw | exact .nil) Tryz.underlying32 | exact R_len rfl (.no rfl) rfl (.tmp rfl fun _ => rfl) (by first | exact .t | exact .rf rfl | exact .vw | exact .nil) Tryz.underlying32)) rfl ?_
    refine AWl.put (R_lt rfl (.no rfl) rfl (.tmp rfl fun _ => rfl) (.tmp rfl fun _ => rfl)) rfl ?_
    refine AWl.nil ?_
    refine AW.cond (.tmp rfl fun _ => rfl) (fun h12 => ?_) (fun h12 => ?_)
    · skip
      try simp at h12
      obtain ⟨t, ht⟩ : ∃ ξ, e.Tokens[k]? = some ξ := ⟨_, List.getElem?_eq_getElem (by omega)⟩
      have hta := hvt.2 t (List.mem_of_getElem? ht)
      have hs1 := tokS_len hta
      have hO : O.size ≤ 9 * e.Tokens.length := by (rw [he, bs_size]; exact Nat.le_trans (joinL_len (sep := [32]) (b := 8) (f := tokS) (l := e.Tokens.take k) fun t ht => tokS_len (hvt.2 t (List.mem_of_mem_take ht))) (by rw [List.length_take]; simp only [List.length_cons, List.length_nil]; omega))
      refine AW.skip ?_
      refine AW.seq ?_
      refine AW.block ?_
      refine AW.seq ?_
      refine AW.seq ?_
      refine AW.region ?_
      refine AWl.put (R_move rfl (.no rfl) rfl (.tmp rfl fun _ => rfl)) rfl ?_
      refine AWl.put (R_gt rfl (.no rfl) rfl (.tmp rfl fun _ => rfl) (.const rfl)) rfl ?_
      refine AWl.nil ?_
      refine AW.cond (.tmp rfl fun _ => rfl) (fun h16 => ?_) (fun h16 => ?_)
      · skip
        try simp at h16
        have hk0 : k ≠ 0 := by (first | omega | (simp at h16; omega))
        refine AW.le (σ' := ⟨_, [(1, _), (2, _), (3, _), (4, _)], []⟩) (Le.sub0 rfl ⟨rfl, rfl, rfl, rfl, trivial⟩ trivial) ?_
        refine AW.region ?_
        refine AWl.put (R_move rfl (.no rfl) rfl (.tmp rfl fun _ => rfl)) rfl ?_
        refine AWl.put (R_cat rfl (.no rfl) rfl (.tmp rfl fun _ => rfl) (.const rfl) (fun _ => by have : (⟨#[32]⟩ : ByteArray).size = 1 := rfl; omega)) rfl ?_
        refine AWl.put (R_assign rfl (.no rfl) rfl (.tmp rfl fun _ => rfl)) rfl ?_
        refine AWl.nil ?_
        refine AW.region ?_
        refine AWl.put (R_move rfl (.no rfl) rfl (.tmp rfl fun _ => rfl)) rfl ?_
        refine AWl.put ((by first | exact R_fieldAddr rfl (.no rfl) rfl (.tmp rfl fun _ => rfl) fl34_0 | exact R_fieldAddr_pp rfl (.no rfl) rfl (.tmp rfl fun _ => rfl) fl34_0 | exact R_fieldAddr_vw rfl (.no rfl) rfl (.tmp rfl fun _ => rfl) fl34_0 | exact R_fieldAddr_pr rfl (.no rfl) rfl (.tmp rfl fun _ => rfl) fl34_0)) rfl ?_
        refine AWl.put ((by first | exact R_load rfl (.no rfl) rfl (.tmp rfl fun _ => rfl) ty32 rfl rfl | exact R_load_pp rfl (.no rfl) rfl (.tmp rfl fun _ => rfl) rfl ty32 rfl rfl | exact R_load_vw rfl (.no rfl) rfl (.tmp rfl fun _ => rfl) ty32 rfl rfl | exact R_load_pr rfl (.no rfl) rfl (.tmp rfl fun _ => rfl) rfl (map_get ht) ty32 rfl rfl)) rfl ?_
        refine AWl.put (R_move rfl (.no rfl) rfl (.tmp rfl fun _ => rfl)) rfl ?_
        refine AWl.put ((by first | exact R_indexAddr rfl (.no rfl) rfl (.tmp rfl fun _ => rfl) (.tmp rfl fun _ => rfl) Tryz.underlying32 ty48 (fun _ => ⟨by omega, (map_get ht)⟩) | exact R_indexAddr_vw rfl (.no rfl) rfl (.tmp rfl fun _ => rfl) (.tmp rfl fun _ => rfl) Tryz.underlying32 ty48 (fun _ => ⟨by omega, (map_get ht)⟩) | exact R_indexAddr_rf rfl (.no rfl) rfl (.tmp rfl fun _ => rfl) rfl (.tmp rfl fun _ => rfl) Tryz.underlying32 ty48 (fun _ => ⟨by omega, (map_get ht)⟩))) rfl ?_
        refine AWl.put ((by first | exact R_load rfl (.no rfl) rfl (.tmp rfl fun _ => rfl) ty48 rfl rfl | exact R_load_pp rfl (.no rfl) rfl (.tmp rfl fun _ => rfl) rfl ty48 rfl rfl | exact R_load_vw rfl (.no rfl) rfl (.tmp rfl fun _ => rfl) ty48 rfl rfl | exact R_load_pr rfl (.no rfl) rfl (.tmp rfl fun _ => rfl) rfl (map_get ht) ty48 rfl rfl)) rfl ?_
        refine AWl.put (R_callz (FnT.fr (specl8Token t hta)) rfl (.no rfl) rfl (.cons (.tmp rfl fun _ => rfl) rfl .nil)) rfl ?_
        refine AWl.put (R_cat rfl (.no rfl) rfl (.tmp rfl fun _ => rfl) (.tmp rfl fun _ => rfl) (fun _ => by (have e1 : (⟨#[32]⟩ : ByteArray).size = 1 := rfl); simp only [ByteArray.size_append, bs_size]; omega)) rfl ?_
        refine AWl.put (R_assign rfl (.no rfl) rfl (.tmp rfl fun _ => rfl)) rfl ?_
        refine AWl.nil ?_
        refine AW.le (σ' := ⟨_, [(1, _), (2, _), (3, _), (4, _)], []⟩) (Le.sub0 rfl ⟨rfl, rfl, rfl, rfl, trivial⟩ trivial) ?_
        refine AW.region ?_
        refine AWl.put (R_move rfl (.no rfl) rfl (.tmp rfl fun _ => rfl)) rfl ?_
        refine AWl.put (R_add rfl (.no rfl) rfl (.tmp rfl fun _ => rfl) (.const rfl) (fun _ => by omega)) rfl ?_
        refine AWl.put (R_assign rfl (.no rfl) rfl (.tmp rfl fun _ => rfl)) rfl ?_
        refine AWl.nil ?_
        repeat (with_reducible refine BlockQ.nor ?_)
        refine Round2.next (k + 1) (((O ++ (ByteArray.mk #[32])) ++ bs (tokS t))) ⟨by omega, (by rw [joinL_at _ ht, if_neg hk0, he, show (⟨#[32]⟩ : ByteArray) = bs [32] from rfl]; simp [bs_append, List.append_assoc])⟩ (by omega) (Le.sub0 rfl ⟨rfl, rfl, rfl, rfl, trivial⟩ trivial)
      · skip
        try simp at h16
        have hk0 : k = 0 := by (first | omega | (simp at h16; omega))
        refine AW.skip ?_
        refine AW.le (σ' := ⟨_, [(1, _), (2, _), (3, _), (4, _)], []⟩) (Le.sub0 rfl ⟨rfl, rfl, rfl, rfl, trivial⟩ trivial) ?_
        refine AW.region ?_
        refine AWl.put (R_move rfl (.no rfl) rfl (.tmp rfl fun _ => rfl)) rfl ?_
        refine AWl.put ((by first | exact R_fieldAddr rfl (.no rfl) rfl (.tmp rfl fun _ => rfl) fl34_0 | exact R_fieldAddr_pp rfl (.no rfl) rfl (.tmp rfl fun _ => rfl) fl34_0 | exact R_fieldAddr_vw rfl (.no rfl) rfl (.tmp rfl fun _ => rfl) fl34_0 | exact R_fieldAddr_pr rfl (.no rfl) rfl (.tmp rfl fun _ => rfl) fl34_0)) rfl ?_
        refine AWl.put ((by first | exact R_load rfl (.no rfl) rfl (.tmp rfl fun _ => rfl) ty32 rfl rfl | exact R_load_pp rfl (.no rfl) rfl (.tmp rfl fun _ => rfl) rfl ty32 rfl rfl | exact R_load_vw rfl (.no rfl) rfl (.tmp rfl fun _ => rfl) ty32 rfl rfl | exact R_load_pr rfl (.no rfl) rfl (.tmp rfl fun _ => rfl) rfl (map_get ht) ty32 rfl rfl)) rfl ?_
        refine AWl.put (R_move rfl (.no rfl) rfl (.tmp rfl fun _ => rfl)) rfl ?_
        refine AWl.put ((by first | exact R_indexAddr rfl (.no rfl) rfl (.tmp rfl fun _ => rfl) (.tmp rfl fun _ => rfl) Tryz.underlying32 ty48 (fun _ => ⟨by omega, (map_get ht)⟩) | exact R_indexAddr_vw rfl (.no rfl) rfl (.tmp rfl fun _ => rfl) (.tmp rfl fun _ => rfl) Tryz.underlying32 ty48 (fun _ => ⟨by omega, (map_get ht)⟩) | exact R_indexAddr_rf rfl (.no rfl) rfl (.tmp rfl fun _ => rfl) rfl (.tmp rfl fun _ => rfl) Tryz.underlying32 ty48 (fun _ => ⟨by omega, (map_get ht)⟩))) rfl ?_
        refine AWl.put ((by first | exact R_load rfl (.no rfl) rfl (.tmp rfl fun _ => rfl) ty48 rfl rfl | exact R_load_pp rfl (.no rfl) rfl (.tmp rfl fun _ => rfl) rfl ty48 rfl rfl | exact R_load_vw rfl (.no rfl) rfl (.tmp rfl fun _ => rfl) ty48 rfl rfl | exact R_load_pr rfl (.no rfl) rfl (.tmp rfl fun _ => rfl) rfl (map_get ht) ty48 rfl rfl)) rfl ?_
        refine AWl.put (R_callz (FnT.fr (specl8Token t hta)) rfl (.no rfl) rfl (.cons (.tmp rfl fun _ => rfl) rfl .nil)) rfl ?_
        refine AWl.put (R_cat rfl (.no rfl) rfl (.tmp rfl fun _ => rfl) (.tmp rfl fun _ => rfl) (fun _ => by (have e1 : (⟨#[32]⟩ : ByteArray).size = 1 := rfl); simp only [ByteArray.size_append, bs_size]; omega)) rfl ?_
        refine AWl.put (R_assign rfl (.no rfl) rfl (.tmp rfl fun _ => rfl)) rfl ?_
        refine AWl.nil ?_
        refine AW.le (σ' := ⟨_, [(1, _), (2, _), (3, _), (4, _)], []⟩) (Le.sub0 rfl ⟨rfl, rfl, rfl, rfl, trivial⟩ trivial) ?_
        refine AW.region ?_
        refine AWl.put (R_move rfl (.no rfl) rfl (.tmp rfl fun _ => rfl)) rfl ?_
        refine AWl.put (R_add rfl (.no rfl) rfl (.tmp rfl fun _ => rfl) (.const rfl) (fun _ => by omega)) rfl ?_
        refine AWl.put (R_assign rfl (.no rfl) rfl (.tmp rfl fun _ => rfl)) rfl ?_
        refine AWl.nil ?_
        repeat (with_reducible refine BlockQ.nor ?_)
        refine Round2.next (k + 1) ((O ++ bs (tokS t))) ⟨by omega, (by rw [joinL_at _ ht, if_pos hk0, he, hk0]; simp [bs_append, joinL_nil])⟩ (by omega) (Le.sub0 rfl ⟨rfl, rfl, rfl, rfl, trivial⟩ trivial)
    · skip
      try simp at h12
      refine AW.exit ?_
      refine AW.seq ?_
      refine AW.region ?_
      refine AWl.put (R_move rfl (.no rfl) rfl (.tmp rfl fun _ => rfl)) rfl ?_
      refine AWl.put (R_assign rfl (.no rfl) rfl (.tmp rfl fun _ => rfl)) rfl ?_
      refine AWl.nil ?_
      refine AW.ret ?_
      refine Res.v rfl rfl ?_
      (unfold fmtExpr; rw [if_pos hv, he, List.take_of_length_le (by omega)])
theorem implFormatConjunction (q : TConjunction) : FnT Tryz.prog 16 [.agg (cConjunction q)] (.a (.one (.v (.string (bs (fmtConj q)))))) := by
  refine FnT.walk Tryz.func16 rfl (by kernel_rfl) Tryz.ntmps16 rfl fun hlen w0 => ?_
  try simp [cPair, cToken, cExpr, cEdge, cGraph, cStep, cWalk, cChange, cBatch, cHistory, cPositions, cAutomaton, cProductStep, cPathAtom, cConjunction, cView, cDelta, cRegistered, cRegistry] at hlen
  have e1 : (⟨#[58]⟩ : ByteArray).size = 1 := rfl
  have e2 : (⟨#[32]⟩ : ByteArray).size = 1 := rfl
  refine AW.seq ?_
  refine AW.region ?_
  refine AWl.put (R_boxz rfl rfl rfl (.tmp rfl fun _ => rfl) (ts := _) (by first | rfl | exact cells_t1 _ | exact cells_t2 _)) rfl ?_
  refine AWl.put (R_assign rfl (.no rfl) rfl (.const rfl)) rfl ?_
  refine AWl.nil ?_
  refine AW.seq ?_
  refine AW.seq ?_
  refine AW.region ?_
  refine AWl.put ((by first | exact R_load rfl (.no rfl) rfl (.tmp rfl fun _ => rfl) ty24 rfl rfl | exact R_load_pp rfl (.no rfl) rfl (.tmp rfl fun _ => rfl) rfl ty24 rfl rfl | exact R_load_vw rfl (.no rfl) rfl (.tmp rfl fun _ => rfl) ty24 rfl rfl | exact R_load_pr rfl (.no rfl) rfl (.tmp rfl fun _ => rfl) rfl (map_get hx) ty24 rfl rfl)) rfl ?_
  refine AWl.put (R_callz (FnT.fr (implIsValidConjunction q)) rfl (.no rfl) rfl (.cons (.tmp rfl fun _ => rfl) rfl .nil)) rfl ?_
  refine AWl.put (R_not rfl (.no rfl) rfl (.tmp rfl fun _ => rfl)) rfl ?_
  refine AWl.nil ?_
  refine AW.cond (.tmp rfl fun _ => rfl) (fun h8 => ?_) (fun h8 => ?_)
  · skip
    try simp at h8
    refine AW.seq ?_
    refine AW.region ?_
    refine AWl.put (R_assign rfl (.no rfl) rfl (.const rfl)) rfl ?_
    refine AWl.nil ?_
    refine AW.ret ?_
    refine Res.v rfl rfl ?_
    (unfold fmtConj; rw [if_neg (by simpa using h8)]; rfl)
  · skip
    try simp at h8
    have hv : validConj q = true := by simpa using h8
    have hvt := conj_mem hv
    refine AW.skip ?_
    refine AW.seq ?_
    refine AW.region ?_
    refine AWl.add (R_empty 9 rfl rfl rfl Tryz.underlying30 ty9 rfl) rfl ?_
    refine AWl.put (R_assign rfl (.no rfl) rfl (.tmp rfl fun _ => rfl)) rfl ?_
    refine AWl.nil ?_
    refine AW.seq ?_
    refine AW.seq ?_
    refine AW.region ?_
    refine AWl.put ((by first | exact R_fieldAddr rfl (.no rfl) rfl (.tmp rfl fun _ => rfl) fl24_1 | exact R_fieldAddr_pp rfl (.no rfl) rfl (.tmp rfl fun _ => rfl) fl24_1 | exact R_fieldAddr_vw rfl (.no rfl) rfl (.tmp rfl fun _ => rfl) fl24_1 | exact R_fieldAddr_pr rfl (.no rfl) rfl (.tmp rfl fun _ => rfl) fl24_1)) rfl ?_
    refine AWl.put ((by first | exact R_load rfl (.no rfl) rfl (.tmp rfl fun _ => rfl) ty22 rfl rfl | exact R_load_pp rfl (.no rfl) rfl (.tmp rfl fun _ => rfl) rfl ty22 rfl rfl | exact R_load_vw rfl (.no rfl) rfl (.tmp rfl fun _ => rfl) ty22 rfl rfl | exact R_load_pr rfl (.no rfl) rfl (.tmp rfl fun _ => rfl) rfl (map_get hx) ty22 rfl rfl)) rfl ?_
    refine AWl.put ((by first | exact R_lenm rfl (.no rfl) rfl (.tmp rfl fun _ => rfl) (by first | exact .t | exact .rf rfl | exact .vw | exact .nil) Tryz.underlying22 | exact R_len rfl (.no rfl) rfl (.tmp rfl fun _ => rfl) (by first | exact .t | exact .rf rfl | exact .vw | exact .nil) Tryz.underlying22)) rfl ?_
    refine AWl.put (R_move rfl (.no rfl) rfl (.const rfl)) rfl ?_
    refine AWl.nil ?_
    refine AW.block ?_
    refine AW.loop1 (fun (k : Nat) => (k ≤ q.Atoms.length) ∧ True) (fun (k : Nat) => ⟨_, [(13, (true, .a (.one (.t (.v (.int .i64 (k : Nat))))))), (3, (true, .a (.one (.rf 9)))), (2, _), (11, _), (12, _)], [(9, .row 1 (((q.Atoms.take k).map fmtAtom).map cStr))]⟩) (fun (k : Nat) => q.Atoms.length - k) (0) ⟨Nat.zero_le _, trivial⟩ (Le.sub0 rfl ⟨rfl, rfl, rfl, rfl, rfl, trivial⟩ ⟨rfl, trivial⟩) ?_
    rintro k ⟨hk, he⟩
    refine AW.seq ?_
    refine AW.region ?_
    refine AWl.put (R_lt rfl (.no rfl) rfl (.tmp rfl fun _ => rfl) (.tmp rfl fun _ => rfl)) rfl ?_
    refine AWl.nil ?_
    refine AW.seq ?_
    refine AW.cond (.tmp rfl fun _ => rfl) (fun h14 => ?_) (fun h14 => ?_)
    · skip
      try simp at h14
      obtain ⟨x, hx⟩ : ∃ ξ, q.Atoms[k]? = some ξ := ⟨_, List.getElem?_eq_getElem (by omega)⟩
      have hxr := hvt.2.2 x (List.mem_of_getElem? hx)
      have s1 := numS_len (n := x.From) (by omega)
      have s2 := numS_len (n := x.To) (by omega)
      have s3 := fmtExpr_len x.Expr
      refine AW.skip ?_
      refine AW.seq ?_
      refine AW.block ?_
      refine AW.seq ?_
      refine AW.region ?_
      refine AWl.put ((by first | exact R_indexAddr rfl (.no rfl) rfl (.tmp rfl fun _ => rfl) (.tmp rfl fun _ => rfl) Tryz.underlying22 ty38 (fun _ => ⟨by omega, (map_get hx)⟩) | exact R_indexAddr_vw rfl (.no rfl) rfl (.tmp rfl fun _ => rfl) (.tmp rfl fun _ => rfl) Tryz.underlying22 ty38 (fun _ => ⟨by omega, (map_get hx)⟩) | exact R_indexAddr_rf rfl (.no rfl) rfl (.tmp rfl fun _ => rfl) rfl (.tmp rfl fun _ => rfl) Tryz.underlying22 ty38 (fun _ => ⟨by omega, (map_get hx)⟩))) rfl ?_
      refine AWl.put ((by first | exact R_load rfl (.no rfl) rfl (.tmp rfl fun _ => rfl) ty38 rfl rfl | exact R_load_pp rfl (.no rfl) rfl (.tmp rfl fun _ => rfl) rfl ty38 rfl rfl | exact R_load_vw rfl (.no rfl) rfl (.tmp rfl fun _ => rfl) ty38 rfl rfl | exact R_load_pr rfl (.no rfl) rfl (.tmp rfl fun _ => rfl) rfl (map_get hx) ty38 rfl rfl)) rfl ?_
      refine AWl.add (R_alloc 5 rfl rfl rfl in38 rfl rfl rfl) rfl ?_
      refine AWl.chgb (R_store_pb rfl rfl rfl (.tmp rfl fun _ => rfl) (.tmp rfl fun _ => rfl) rfl ty38 rfl rfl rfl (by kernel_rfl) rfl) ?_
      refine AWl.nil ?_
      refine AW.drawn 15 (nthB [[], [], [1], [1, 2], [1, 2, 3], [], [5], [1, 2, 3, 5, 6], [1, 2, 3, 4, 5, 6, 7], [1, 2, 3, 4, 5, 6, 7, 8], [], [10], [1, 2, 3, 5, 6, 7, 10, 11], [1, 2, 3, 4, 5, 6, 7, 8, 9, 10, 11, 12], [1, 2, 3, 4, 5, 6, 7, 8, 9, 10, 11, 12, 13]]) (by kernel_rfl) (by kernel_rfl) (by kernel_rfl) ?_
      refine DrawC.step rfl rfl rfl (Loc.of rfl fun σ' hs => R_move rfl (.no rfl) (hd_sup hs rfl) (.tmp (hs.slots _ _ rfl) fun _ => rfl)) ?_
      refine DrawC.step rfl rfl rfl (Loc.of rfl fun σ' hs => (by first | exact R_fieldAddr rfl (.no rfl) (hd_sup hs rfl) (.tmp (hs.slots _ _ rfl) fun _ => rfl) fl38_0 | exact R_fieldAddr_pp rfl (.no rfl) (hd_sup hs rfl) (.tmp (hs.slots _ _ rfl) fun _ => rfl) fl38_0 | exact R_fieldAddr_vw rfl (.no rfl) (hd_sup hs rfl) (.tmp (hs.slots _ _ rfl) fun _ => rfl) fl38_0 | exact R_fieldAddr_pr rfl (.no rfl) (hd_sup hs rfl) (.tmp (hs.slots _ _ rfl) fun _ => rfl) fl38_0)) ?_
      refine DrawC.step rfl rfl rfl (Loc.of rfl fun σ' hs => (by first | exact R_load rfl (.no rfl) (hd_sup hs rfl) (.tmp (hs.slots _ _ rfl) fun _ => rfl) ty3 rfl rfl | exact R_load_pp rfl (.no rfl) (hd_sup hs rfl) (.tmp (hs.slots _ _ rfl) fun _ => rfl) (hs.res _ _ rfl) ty3 rfl rfl | exact R_load_vw rfl (.no rfl) (hd_sup hs rfl) (.tmp (hs.slots _ _ rfl) fun _ => rfl) ty3 rfl rfl | exact R_load_pr rfl (.no rfl) (hd_sup hs rfl) (.tmp (hs.slots _ _ rfl) fun _ => rfl) (hs.res _ _ rfl) (map_get hx) ty3 rfl rfl)) ?_
      refine DrawC.step rfl rfl rfl (Loc.of rfl fun σ' hs => R_callz (FnT.fr (implFormatInt x.From (by omega) (by omega))) rfl (.no rfl) (hd_sup hs rfl) (.cons (.tmp (hs.slots _ _ rfl) fun _ => rfl) (readA_sup hs rfl) .nil)) ?_
      refine DrawC.step rfl rfl rfl (Loc.of rfl fun σ' hs => R_cat rfl (.no rfl) (hd_sup hs rfl) (.tmp (hs.slots _ _ rfl) fun _ => rfl) (.const rfl) (fun _ => by simp only [ByteArray.size_append, bs_size]; omega)) ?_
      refine DrawC.step rfl rfl rfl (Loc.of rfl fun σ' hs => (by first | exact R_fieldAddr rfl (.no rfl) (hd_sup hs rfl) (.tmp (hs.slots _ _ rfl) fun _ => rfl) fl38_1 | exact R_fieldAddr_pp rfl (.no rfl) (hd_sup hs rfl) (.tmp (hs.slots _ _ rfl) fun _ => rfl) fl38_1 | exact R_fieldAddr_vw rfl (.no rfl) (hd_sup hs rfl) (.tmp (hs.slots _ _ rfl) fun _ => rfl) fl38_1 | exact R_fieldAddr_pr rfl (.no rfl) (hd_sup hs rfl) (.tmp (hs.slots _ _ rfl) fun _ => rfl) fl38_1)) ?_
      refine DrawC.step rfl rfl rfl (Loc.of rfl fun σ' hs => (by first | exact R_load rfl (.no rfl) (hd_sup hs rfl) (.tmp (hs.slots _ _ rfl) fun _ => rfl) ty3 rfl rfl | exact R_load_pp rfl (.no rfl) (hd_sup hs rfl) (.tmp (hs.slots _ _ rfl) fun _ => rfl) (hs.res _ _ rfl) ty3 rfl rfl | exact R_load_vw rfl (.no rfl) (hd_sup hs rfl) (.tmp (hs.slots _ _ rfl) fun _ => rfl) ty3 rfl rfl | exact R_load_pr rfl (.no rfl) (hd_sup hs rfl) (.tmp (hs.slots _ _ rfl) fun _ => rfl) (hs.res _ _ rfl) (map_get hx) ty3 rfl rfl)) ?_
      refine DrawC.step rfl rfl rfl (Loc.of rfl fun σ' hs => R_callz (FnT.fr (implFormatInt x.To (by omega) (by omega))) rfl (.no rfl) (hd_sup hs rfl) (.cons (.tmp (hs.slots _ _ rfl) fun _ => rfl) (readA_sup hs rfl) .nil)) ?_
      refine DrawC.step rfl rfl rfl (Loc.of rfl fun σ' hs => R_cat rfl (.no rfl) (hd_sup hs rfl) (.tmp (hs.slots _ _ rfl) fun _ => rfl) (.tmp (hs.slots _ _ rfl) fun _ => rfl) (fun _ => by simp only [ByteArray.size_append, bs_size]; omega)) ?_
      refine DrawC.step rfl rfl rfl (Loc.of rfl fun σ' hs => R_cat rfl (.no rfl) (hd_sup hs rfl) (.tmp (hs.slots _ _ rfl) fun _ => rfl) (.const rfl) (fun _ => by simp only [ByteArray.size_append, bs_size]; omega)) ?_
      refine DrawC.step rfl rfl rfl (Loc.of rfl fun σ' hs => (by first | exact R_fieldAddr rfl (.no rfl) (hd_sup hs rfl) (.tmp (hs.slots _ _ rfl) fun _ => rfl) fl38_2 | exact R_fieldAddr_pp rfl (.no rfl) (hd_sup hs rfl) (.tmp (hs.slots _ _ rfl) fun _ => rfl) fl38_2 | exact R_fieldAddr_vw rfl (.no rfl) (hd_sup hs rfl) (.tmp (hs.slots _ _ rfl) fun _ => rfl) fl38_2 | exact R_fieldAddr_pr rfl (.no rfl) (hd_sup hs rfl) (.tmp (hs.slots _ _ rfl) fun _ => rfl) fl38_2)) ?_
      refine DrawC.step rfl rfl rfl (Loc.of rfl fun σ' hs => (by first | exact R_load rfl (.no rfl) (hd_sup hs rfl) (.tmp (hs.slots _ _ rfl) fun _ => rfl) ty34 rfl rfl | exact R_load_pp rfl (.no rfl) (hd_sup hs rfl) (.tmp (hs.slots _ _ rfl) fun _ => rfl) (hs.res _ _ rfl) ty34 rfl rfl | exact R_load_vw rfl (.no rfl) (hd_sup hs rfl) (.tmp (hs.slots _ _ rfl) fun _ => rfl) ty34 rfl rfl | exact R_load_pr rfl (.no rfl) (hd_sup hs rfl) (.tmp (hs.slots _ _ rfl) fun _ => rfl) (hs.res _ _ rfl) (map_get hx) ty34 rfl rfl)) ?_
      refine DrawC.step rfl rfl rfl (Loc.of rfl fun σ' hs => R_callz (FnT.fr (implFormatExpr x.Expr)) rfl (.no rfl) (hd_sup hs rfl) (.cons (.tmp (hs.slots _ _ rfl) fun _ => rfl) (readA_sup hs rfl) .nil)) ?_
      refine DrawC.step rfl rfl rfl (Loc.of rfl fun σ' hs => R_cat rfl (.no rfl) (hd_sup hs rfl) (.tmp (hs.slots _ _ rfl) fun _ => rfl) (.tmp (hs.slots _ _ rfl) fun _ => rfl) (fun _ => by simp only [ByteArray.size_append, bs_size]; omega)) ?_
      refine DrawC.step rfl rfl rfl (Loc.of rfl fun σ' hs => R_listz (xs := [.tmp 30]) (rows := [[.v (.string ((((bs (numS x.From) ++ (ByteArray.mk #[58])) ++ bs (numS x.To)) ++ (ByteArray.mk #[32])) ++ bs (fmtExpr x.Expr)))]]) rfl rfl (hd_sup hs rfl) (.cons (.tmp (hs.slots _ _ rfl) fun _ => rfl) rfl rfl .nil) Tryz.underlying30 in9 rfl rfl (rfl)) ?_
      refine DrawC.fin rfl rfl ?_
      refine AWl.chgput (R_append rfl rfl rfl (.tmp rfl fun _ => rfl) rfl (.tmp rfl fun _ => rfl) (by first | exact .t | exact .rf rfl | exact .vw | exact .nil) (by first | rfl | exact isV_map (fun _ => rfl) _ | exact isV_part (fun _ => rfl) _ _ _) Tryz.underlying30 in9 rfl (by first | omega | (simp [chunk]; omega) | (simp only [List.length_map, List.length_append, List.length_cons, List.length_nil, chunk]; omega)) (by first | omega | (unfold maxLen; omega) | (unfold maxLen; simp [chunk]; omega) | (unfold maxLen; simp only [List.length_map, List.length_append, List.length_cons, List.length_nil, chunk]; omega))) rfl ?_
      refine AWl.le (σ' := ⟨_, [(2, _), (3, _), (5, _), (11, _), (12, _), (13, _), (14, _), (32, _)], [(9, _), (5, _)]⟩) (Le.sub0 rfl ⟨rfl, rfl, rfl, rfl, rfl, rfl, rfl, rfl, trivial⟩ ⟨rfl, rfl, trivial⟩) ?_
      refine AWl.put (R_assign rfl (.no rfl) rfl (.tmp rfl fun _ => rfl)) rfl ?_
      refine AWl.nil ?_
      refine AW.region ?_
      refine AWl.put (R_add rfl (.no rfl) rfl (.tmp rfl fun _ => rfl) (.const rfl) (fun _ => by omega)) rfl ?_
      refine AWl.put (R_move rfl (.no rfl) rfl (.tmp rfl fun _ => rfl)) rfl ?_
      refine AWl.nil ?_
      repeat (with_reducible refine BlockQ.nor ?_)
      refine Round1.next (k + 1) ⟨by omega, trivial⟩ (by omega) (Le.sub0 rfl ⟨rfl, rfl, rfl, rfl, rfl, trivial⟩ ⟨(by refine congrArg (fun r => some (R.row 1 r)) ?_; rw [take_at hx, show (⟨#[58]⟩ : ByteArray) = bs [58] from rfl, show (⟨#[32]⟩ : ByteArray) = bs [32] from rfl]; simp [chunk, cStr, fmtAtom, bs_append]; done), trivial⟩)
    · skip
      try simp at h14
      refine AW.exit ?_
      refine AW.seq ?_
      refine AW.le (σ' := ⟨_, [(2, _), (3, _), (11, _), (12, _), (13, _)], [(9, .row 1 ((q.Atoms.map fmtAtom).map cStr))]⟩) (Le.sub0 rfl ⟨rfl, rfl, rfl, rfl, rfl, trivial⟩ ⟨by rw [List.take_of_length_le (l := q.Atoms) (by omega)]; rfl, trivial⟩) ?_
      refine AW.region ?_
      refine AWl.put (R_move rfl (.no rfl) rfl (.tmp rfl fun _ => rfl)) rfl ?_
      refine AWl.put (R_callz (FnT.fr (stringsJoin (q.Atoms.map fmtAtom) [59] (by have := joinL_len (sep := [59]) (b := 222) (f := fmtAtom) (l := q.Atoms) fun x hx => fmtAtom_len (by have := hvt.2.2 x hx; omega) (by have := hvt.2.2 x hx; omega); simp at this; omega) (by rw [List.length_map]; omega))) rfl (.no rfl) rfl (.cons (.tmp rfl fun _ => rfl) rfl (.cons (.const rfl) rfl .nil))) rfl ?_
      refine AWl.put (R_assign rfl (.no rfl) rfl (.tmp rfl fun _ => rfl)) rfl ?_
      refine AWl.nil ?_
      refine AW.ret ?_
      refine Res.v rfl rfl ?_
      (unfold fmtConj; rw [if_pos hv])
set_option maxHeartbeats 1500000 in
theorem specFormatConjunction (q : TConjunction) : FnT Tryz.prog 11 [.agg (cConjunction q)] (.a (.one (.v (.string (bs (fmtConj q)))))) := by
  refine FnT.walk Tryz.func11 rfl (by kernel_rfl) Tryz.ntmps11 rfl fun hlen w0 => ?_
  try simp [cPair, cToken, cExpr, cEdge, cGraph, cStep, cWalk, cChange, cBatch, cHistory, cPositions, cAutomaton, cProductStep, cPathAtom, cConjunction, cView, cDelta, cRegistered, cRegistry] at hlen
  have e1 : (⟨#[58]⟩ : ByteArray).size = 1 := rfl
  have e2 : (⟨#[32]⟩ : ByteArray).size = 1 := rfl
  have e3 : (⟨#[59]⟩ : ByteArray).size = 1 := rfl
  refine AW.seq ?_
  refine AW.region ?_
  refine AWl.put (R_boxz rfl rfl rfl (.tmp rfl fun _ => rfl) (ts := _) (by first | rfl | exact cells_t1 _ | exact cells_t2 _)) rfl ?_
  refine AWl.put (R_assign rfl (.no rfl) rfl (.const rfl)) rfl ?_
  refine AWl.nil ?_
  refine AW.seq ?_
  refine AW.seq ?_
  refine AW.region ?_
  refine AWl.put ((by first | exact R_load rfl (.no rfl) rfl (.tmp rfl fun _ => rfl) ty24 rfl rfl | exact R_load_pp rfl (.no rfl) rfl (.tmp rfl fun _ => rfl) rfl ty24 rfl rfl | exact R_load_vw rfl (.no rfl) rfl (.tmp rfl fun _ => rfl) ty24 rfl rfl | exact R_load_pr rfl (.no rfl) rfl (.tmp rfl fun _ => rfl) rfl (map_get hx) ty24 rfl rfl)) rfl ?_
  refine AWl.put (R_callz (FnT.fr (specIsValidConjunction q)) rfl (.no rfl) rfl (.cons (.tmp rfl fun _ => rfl) rfl .nil)) rfl ?_
  refine AWl.put (R_not rfl (.no rfl) rfl (.tmp rfl fun _ => rfl)) rfl ?_
  refine AWl.nil ?_
  refine AW.cond (.tmp rfl fun _ => rfl) (fun h7 => ?_) (fun h7 => ?_)
  · skip
    try simp at h7
    refine AW.seq ?_
    refine AW.region ?_
    refine AWl.put (R_assign rfl (.no rfl) rfl (.const rfl)) rfl ?_
    refine AWl.nil ?_
    refine AW.ret ?_
    refine Res.v rfl rfl ?_
    (unfold fmtConj; rw [if_neg (by simpa using h7)]; rfl)
  · skip
    try simp at h7
    have hv : validConj q = true := by simpa using h7
    have hvt := conj_mem hv
    refine AW.skip ?_
    refine AW.seq ?_
    refine AW.region ?_
    refine AWl.put (R_assign rfl (.no rfl) rfl (.const rfl)) rfl ?_
    refine AWl.nil ?_
    refine AW.seq ?_
    refine AW.seq ?_
    refine AW.region ?_
    refine AWl.put (R_assign rfl (.no rfl) rfl (.const rfl)) rfl ?_
    refine AWl.nil ?_
    refine AW.block ?_
    refine AW.loop2 (fun (k : Nat) (O : ByteArray) => (k ≤ q.Atoms.length) ∧ O = bs (joinL [59] ((q.Atoms.take k).map fmtAtom))) (fun (k : Nat) (O : ByteArray) => ⟨_, [(4, (true, .a (.one (.t (.v (.int .i64 (k : Nat))))))), (3, (true, .a (.one (.t (.v (.string O)))))), (1, _), (2, _)], []⟩) (fun (k : Nat) (O : ByteArray) => q.Atoms.length - k) (0) (⟨#[]⟩) ⟨Nat.zero_le _, (by simp [joinL_nil]; rfl)⟩ (Le.sub0 rfl ⟨rfl, rfl, rfl, rfl, trivial⟩ trivial) ?_
    rintro k O ⟨hk, he⟩
    refine AW.seq ?_
    refine AW.seq ?_
    refine AW.region ?_
    refine AWl.put (R_move rfl (.no rfl) rfl (.tmp rfl fun _ => rfl)) rfl ?_
    refine AWl.put ((by first | exact R_fieldAddr rfl (.no rfl) rfl (.tmp rfl fun _ => rfl) fl24_1 | exact R_fieldAddr_pp rfl (.no rfl) rfl (.tmp rfl fun _ => rfl) fl24_1 | exact R_fieldAddr_vw rfl (.no rfl) rfl (.tmp rfl fun _ => rfl) fl24_1 | exact R_fieldAddr_pr rfl (.no rfl) rfl (.tmp rfl fun _ => rfl) fl24_1)) rfl ?_
    refine AWl.put ((by first | exact R_load rfl (.no rfl) rfl (.tmp rfl fun _ => rfl) ty22 rfl rfl | exact R_load_pp rfl (.no rfl) rfl (.tmp rfl fun _ => rfl) rfl ty22 rfl rfl | exact R_load_vw rfl (.no rfl) rfl (.tmp rfl fun _ => rfl) ty22 rfl rfl | exact R_load_pr rfl (.no rfl) rfl (.tmp rfl fun _ => rfl) rfl (map_get hx) ty22 rfl rfl)) rfl ?_
    refine AWl.put ((by first | exact R_lenm rfl (.no rfl) rfl (.tmp rfl fun _ => rfl) (by first | exact .t | exact .rf rfl | exact .vw | exact .nil) Tryz.underlying22 | exact R_len rfl (.no rfl) rfl (.tmp rfl fun _ => rfl) (by first | exact .t | exact .rf rfl | exact .vw | exact .nil) Tryz.underlying22)) rfl ?_
    refine AWl.put (R_lt rfl (.no rfl) rfl (.tmp rfl fun _ => rfl) (.tmp rfl fun _ => rfl)) rfl ?_
    refine AWl.nil ?_
    refine AW.cond (.tmp rfl fun _ => rfl) (fun h12 => ?_) (fun h12 => ?_)
    · skip
      try simp at h12
      obtain ⟨x, hx⟩ : ∃ ξ, q.Atoms[k]? = some ξ := ⟨_, List.getElem?_eq_getElem (by omega)⟩
      have hxr := hvt.2.2 x (List.mem_of_getElem? hx)
      have s1 := numS_len (n := x.From) (by omega)
      have s2 := numS_len (n := x.To) (by omega)
      have s3 := fmtExpr_len x.Expr
      have hO : O.size ≤ 223 * q.Atoms.length := by (rw [he, bs_size]; exact Nat.le_trans (joinL_len (sep := [59]) (b := 222) (f := fmtAtom) (l := q.Atoms.take k) fun x hx => fmtAtom_len (by have := hvt.2.2 x (List.mem_of_mem_take hx); omega) (by have := hvt.2.2 x (List.mem_of_mem_take hx); omega)) (by rw [List.length_take]; simp only [List.length_cons, List.length_nil]; omega))
      refine AW.skip ?_
      refine AW.seq ?_
      refine AW.block ?_
      refine AW.seq ?_
      refine AW.seq ?_
      refine AW.region ?_
      refine AWl.put (R_move rfl (.no rfl) rfl (.tmp rfl fun _ => rfl)) rfl ?_
      refine AWl.put (R_gt rfl (.no rfl) rfl (.tmp rfl fun _ => rfl) (.const rfl)) rfl ?_
      refine AWl.nil ?_
      refine AW.cond (.tmp rfl fun _ => rfl) (fun h16 => ?_) (fun h16 => ?_)
      · skip
        try simp at h16
        have hcs := conj_step hx he (show k ≠ 0 by first | omega | (simp at h16; omega))
        refine AW.le (σ' := ⟨_, [(1, _), (2, _), (3, _), (4, _)], []⟩) (Le.sub0 rfl ⟨rfl, rfl, rfl, rfl, trivial⟩ trivial) ?_
        refine AW.region ?_
        refine AWl.put (R_move rfl (.no rfl) rfl (.tmp rfl fun _ => rfl)) rfl ?_
        refine AWl.put (R_cat rfl (.no rfl) rfl (.tmp rfl fun _ => rfl) (.const rfl) (fun _ => by omega)) rfl ?_
        refine AWl.put (R_assign rfl (.no rfl) rfl (.tmp rfl fun _ => rfl)) rfl ?_
        refine AWl.nil ?_
        refine AW.drawn 27 (nthB [[], [], [1], [], [1, 2, 3], [1, 2, 3, 4], [1, 2, 3, 4, 5], [1, 2, 3, 4, 5, 6], [0, 1, 2, 3, 4, 5, 6, 7], [0, 1, 2, 3, 4, 5, 6, 7, 8], [], [10], [], [10, 11, 12], [10, 11, 12, 13], [10, 11, 12, 13, 14], [1, 2, 3, 4, 5, 6, 7, 10, 11, 12, 13, 14, 15], [0, 1, 2, 3, 4, 5, 6, 7, 8, 9, 10, 11, 12, 13, 14, 15, 16], [0, 1, 2, 3, 4, 5, 6, 7, 8, 9, 10, 11, 12, 13, 14, 15, 16, 17], [], [19], [], [19, 20, 21], [19, 20, 21, 22], [19, 20, 21, 22, 23], [1, 2, 3, 4, 5, 6, 7, 10, 11, 12, 13, 14, 15, 16, 19, 20, 21, 22, 23, 24], [0, 1, 2, 3, 4, 5, 6, 7, 8, 9, 10, 11, 12, 13, 14, 15, 16, 17, 18, 19, 20, 21, 22, 23, 24, 25]]) (by kernel_rfl) (by kernel_rfl) (by kernel_rfl) ?_
        refine DrawC.step rfl rfl rfl (Loc.of rfl fun σ' hs => R_move rfl (.no rfl) (hd_sup hs rfl) (.tmp (hs.slots _ _ rfl) fun _ => rfl)) ?_
        refine DrawC.step rfl rfl rfl (Loc.of rfl fun σ' hs => (by first | exact R_fieldAddr rfl (.no rfl) (hd_sup hs rfl) (.tmp (hs.slots _ _ rfl) fun _ => rfl) fl24_1 | exact R_fieldAddr_pp rfl (.no rfl) (hd_sup hs rfl) (.tmp (hs.slots _ _ rfl) fun _ => rfl) fl24_1 | exact R_fieldAddr_vw rfl (.no rfl) (hd_sup hs rfl) (.tmp (hs.slots _ _ rfl) fun _ => rfl) fl24_1 | exact R_fieldAddr_pr rfl (.no rfl) (hd_sup hs rfl) (.tmp (hs.slots _ _ rfl) fun _ => rfl) fl24_1)) ?_
        refine DrawC.step rfl rfl rfl (Loc.of rfl fun σ' hs => (by first | exact R_load rfl (.no rfl) (hd_sup hs rfl) (.tmp (hs.slots _ _ rfl) fun _ => rfl) ty22 rfl rfl | exact R_load_pp rfl (.no rfl) (hd_sup hs rfl) (.tmp (hs.slots _ _ rfl) fun _ => rfl) (hs.res _ _ rfl) ty22 rfl rfl | exact R_load_vw rfl (.no rfl) (hd_sup hs rfl) (.tmp (hs.slots _ _ rfl) fun _ => rfl) ty22 rfl rfl | exact R_load_pr rfl (.no rfl) (hd_sup hs rfl) (.tmp (hs.slots _ _ rfl) fun _ => rfl) (hs.res _ _ rfl) (map_get hx) ty22 rfl rfl)) ?_
        refine DrawC.step rfl rfl rfl (Loc.of rfl fun σ' hs => R_move rfl (.no rfl) (hd_sup hs rfl) (.tmp (hs.slots _ _ rfl) fun _ => rfl)) ?_
        refine DrawC.step rfl rfl rfl (Loc.of rfl fun σ' hs => (by first | exact R_indexAddr rfl (.no rfl) (hd_sup hs rfl) (.tmp (hs.slots _ _ rfl) fun _ => rfl) (.tmp (hs.slots _ _ rfl) fun _ => rfl) Tryz.underlying22 ty38 (fun _ => ⟨by omega, (map_get hx)⟩) | exact R_indexAddr_vw rfl (.no rfl) (hd_sup hs rfl) (.tmp (hs.slots _ _ rfl) fun _ => rfl) (.tmp (hs.slots _ _ rfl) fun _ => rfl) Tryz.underlying22 ty38 (fun _ => ⟨by omega, (map_get hx)⟩) | exact R_indexAddr_rf rfl (.no rfl) (hd_sup hs rfl) (.tmp (hs.slots _ _ rfl) fun _ => rfl) (hs.res _ _ rfl) (.tmp (hs.slots _ _ rfl) fun _ => rfl) Tryz.underlying22 ty38 (fun _ => ⟨by omega, (map_get hx)⟩))) ?_
        refine DrawC.step rfl rfl rfl (Loc.of rfl fun σ' hs => (by first | exact R_fieldAddr rfl (.no rfl) (hd_sup hs rfl) (.tmp (hs.slots _ _ rfl) fun _ => rfl) fl38_0 | exact R_fieldAddr_pp rfl (.no rfl) (hd_sup hs rfl) (.tmp (hs.slots _ _ rfl) fun _ => rfl) fl38_0 | exact R_fieldAddr_vw rfl (.no rfl) (hd_sup hs rfl) (.tmp (hs.slots _ _ rfl) fun _ => rfl) fl38_0 | exact R_fieldAddr_pr rfl (.no rfl) (hd_sup hs rfl) (.tmp (hs.slots _ _ rfl) fun _ => rfl) fl38_0)) ?_
        refine DrawC.step rfl rfl rfl (Loc.of rfl fun σ' hs => (by first | exact R_load rfl (.no rfl) (hd_sup hs rfl) (.tmp (hs.slots _ _ rfl) fun _ => rfl) ty3 rfl rfl | exact R_load_pp rfl (.no rfl) (hd_sup hs rfl) (.tmp (hs.slots _ _ rfl) fun _ => rfl) (hs.res _ _ rfl) ty3 rfl rfl | exact R_load_vw rfl (.no rfl) (hd_sup hs rfl) (.tmp (hs.slots _ _ rfl) fun _ => rfl) ty3 rfl rfl | exact R_load_pr rfl (.no rfl) (hd_sup hs rfl) (.tmp (hs.slots _ _ rfl) fun _ => rfl) (hs.res _ _ rfl) (map_get hx) ty3 rfl rfl)) ?_
        refine DrawC.step rfl rfl rfl (Loc.of rfl fun σ' hs => R_callz (FnT.fr (specFormatInt x.From (by omega) (by omega))) rfl (.no rfl) (hd_sup hs rfl) (.cons (.tmp (hs.slots _ _ rfl) fun _ => rfl) (readA_sup hs rfl) .nil)) ?_
        refine DrawC.step rfl rfl rfl (Loc.of rfl fun σ' hs => R_cat rfl (.no rfl) (hd_sup hs rfl) (.tmp (hs.slots _ _ rfl) fun _ => rfl) (.tmp (hs.slots _ _ rfl) fun _ => rfl) (fun _ => by simp only [ByteArray.size_append, bs_size]; omega)) ?_
        refine DrawC.step rfl rfl rfl (Loc.of rfl fun σ' hs => R_cat rfl (.no rfl) (hd_sup hs rfl) (.tmp (hs.slots _ _ rfl) fun _ => rfl) (.const rfl) (fun _ => by simp only [ByteArray.size_append, bs_size]; omega)) ?_
        refine DrawC.step rfl rfl rfl (Loc.of rfl fun σ' hs => (by first | exact R_fieldAddr rfl (.no rfl) (hd_sup hs rfl) (.tmp (hs.slots _ _ rfl) fun _ => rfl) fl24_1 | exact R_fieldAddr_pp rfl (.no rfl) (hd_sup hs rfl) (.tmp (hs.slots _ _ rfl) fun _ => rfl) fl24_1 | exact R_fieldAddr_vw rfl (.no rfl) (hd_sup hs rfl) (.tmp (hs.slots _ _ rfl) fun _ => rfl) fl24_1 | exact R_fieldAddr_pr rfl (.no rfl) (hd_sup hs rfl) (.tmp (hs.slots _ _ rfl) fun _ => rfl) fl24_1)) ?_
        refine DrawC.step rfl rfl rfl (Loc.of rfl fun σ' hs => (by first | exact R_load rfl (.no rfl) (hd_sup hs rfl) (.tmp (hs.slots _ _ rfl) fun _ => rfl) ty22 rfl rfl | exact R_load_pp rfl (.no rfl) (hd_sup hs rfl) (.tmp (hs.slots _ _ rfl) fun _ => rfl) (hs.res _ _ rfl) ty22 rfl rfl | exact R_load_vw rfl (.no rfl) (hd_sup hs rfl) (.tmp (hs.slots _ _ rfl) fun _ => rfl) ty22 rfl rfl | exact R_load_pr rfl (.no rfl) (hd_sup hs rfl) (.tmp (hs.slots _ _ rfl) fun _ => rfl) (hs.res _ _ rfl) (map_get hx) ty22 rfl rfl)) ?_
        refine DrawC.step rfl rfl rfl (Loc.of rfl fun σ' hs => R_move rfl (.no rfl) (hd_sup hs rfl) (.tmp (hs.slots _ _ rfl) fun _ => rfl)) ?_
        refine DrawC.step rfl rfl rfl (Loc.of rfl fun σ' hs => (by first | exact R_indexAddr rfl (.no rfl) (hd_sup hs rfl) (.tmp (hs.slots _ _ rfl) fun _ => rfl) (.tmp (hs.slots _ _ rfl) fun _ => rfl) Tryz.underlying22 ty38 (fun _ => ⟨by omega, (map_get hx)⟩) | exact R_indexAddr_vw rfl (.no rfl) (hd_sup hs rfl) (.tmp (hs.slots _ _ rfl) fun _ => rfl) (.tmp (hs.slots _ _ rfl) fun _ => rfl) Tryz.underlying22 ty38 (fun _ => ⟨by omega, (map_get hx)⟩) | exact R_indexAddr_rf rfl (.no rfl) (hd_sup hs rfl) (.tmp (hs.slots _ _ rfl) fun _ => rfl) (hs.res _ _ rfl) (.tmp (hs.slots _ _ rfl) fun _ => rfl) Tryz.underlying22 ty38 (fun _ => ⟨by omega, (map_get hx)⟩))) ?_
        refine DrawC.step rfl rfl rfl (Loc.of rfl fun σ' hs => (by first | exact R_fieldAddr rfl (.no rfl) (hd_sup hs rfl) (.tmp (hs.slots _ _ rfl) fun _ => rfl) fl38_1 | exact R_fieldAddr_pp rfl (.no rfl) (hd_sup hs rfl) (.tmp (hs.slots _ _ rfl) fun _ => rfl) fl38_1 | exact R_fieldAddr_vw rfl (.no rfl) (hd_sup hs rfl) (.tmp (hs.slots _ _ rfl) fun _ => rfl) fl38_1 | exact R_fieldAddr_pr rfl (.no rfl) (hd_sup hs rfl) (.tmp (hs.slots _ _ rfl) fun _ => rfl) fl38_1)) ?_
        refine DrawC.step rfl rfl rfl (Loc.of rfl fun σ' hs => (by first | exact R_load rfl (.no rfl) (hd_sup hs rfl) (.tmp (hs.slots _ _ rfl) fun _ => rfl) ty3 rfl rfl | exact R_load_pp rfl (.no rfl) (hd_sup hs rfl) (.tmp (hs.slots _ _ rfl) fun _ => rfl) (hs.res _ _ rfl) ty3 rfl rfl | exact R_load_vw rfl (.no rfl) (hd_sup hs rfl) (.tmp (hs.slots _ _ rfl) fun _ => rfl) ty3 rfl rfl | exact R_load_pr rfl (.no rfl) (hd_sup hs rfl) (.tmp (hs.slots _ _ rfl) fun _ => rfl) (hs.res _ _ rfl) (map_get hx) ty3 rfl rfl)) ?_
        refine DrawC.step rfl rfl rfl (Loc.of rfl fun σ' hs => R_callz (FnT.fr (specFormatInt x.To (by omega) (by omega))) rfl (.no rfl) (hd_sup hs rfl) (.cons (.tmp (hs.slots _ _ rfl) fun _ => rfl) (readA_sup hs rfl) .nil)) ?_
        refine DrawC.step rfl rfl rfl (Loc.of rfl fun σ' hs => R_cat rfl (.no rfl) (hd_sup hs rfl) (.tmp (hs.slots _ _ rfl) fun _ => rfl) (.tmp (hs.slots _ _ rfl) fun _ => rfl) (fun _ => by simp only [ByteArray.size_append, bs_size]; omega)) ?_
        refine DrawC.step rfl rfl rfl (Loc.of rfl fun σ' hs => R_cat rfl (.no rfl) (hd_sup hs rfl) (.tmp (hs.slots _ _ rfl) fun _ => rfl) (.const rfl) (fun _ => by simp only [ByteArray.size_append, bs_size]; omega)) ?_
        refine DrawC.step rfl rfl rfl (Loc.of rfl fun σ' hs => (by first | exact R_fieldAddr rfl (.no rfl) (hd_sup hs rfl) (.tmp (hs.slots _ _ rfl) fun _ => rfl) fl24_1 | exact R_fieldAddr_pp rfl (.no rfl) (hd_sup hs rfl) (.tmp (hs.slots _ _ rfl) fun _ => rfl) fl24_1 | exact R_fieldAddr_vw rfl (.no rfl) (hd_sup hs rfl) (.tmp (hs.slots _ _ rfl) fun _ => rfl) fl24_1 | exact R_fieldAddr_pr rfl (.no rfl) (hd_sup hs rfl) (.tmp (hs.slots _ _ rfl) fun _ => rfl) fl24_1)) ?_
        refine DrawC.step rfl rfl rfl (Loc.of rfl fun σ' hs => (by first | exact R_load rfl (.no rfl) (hd_sup hs rfl) (.tmp (hs.slots _ _ rfl) fun _ => rfl) ty22 rfl rfl | exact R_load_pp rfl (.no rfl) (hd_sup hs rfl) (.tmp (hs.slots _ _ rfl) fun _ => rfl) (hs.res _ _ rfl) ty22 rfl rfl | exact R_load_vw rfl (.no rfl) (hd_sup hs rfl) (.tmp (hs.slots _ _ rfl) fun _ => rfl) ty22 rfl rfl | exact R_load_pr rfl (.no rfl) (hd_sup hs rfl) (.tmp (hs.slots _ _ rfl) fun _ => rfl) (hs.res _ _ rfl) (map_get hx) ty22 rfl rfl)) ?_
        refine DrawC.step rfl rfl rfl (Loc.of rfl fun σ' hs => R_move rfl (.no rfl) (hd_sup hs rfl) (.tmp (hs.slots _ _ rfl) fun _ => rfl)) ?_
        refine DrawC.step rfl rfl rfl (Loc.of rfl fun σ' hs => (by first | exact R_indexAddr rfl (.no rfl) (hd_sup hs rfl) (.tmp (hs.slots _ _ rfl) fun _ => rfl) (.tmp (hs.slots _ _ rfl) fun _ => rfl) Tryz.underlying22 ty38 (fun _ => ⟨by omega, (map_get hx)⟩) | exact R_indexAddr_vw rfl (.no rfl) (hd_sup hs rfl) (.tmp (hs.slots _ _ rfl) fun _ => rfl) (.tmp (hs.slots _ _ rfl) fun _ => rfl) Tryz.underlying22 ty38 (fun _ => ⟨by omega, (map_get hx)⟩) | exact R_indexAddr_rf rfl (.no rfl) (hd_sup hs rfl) (.tmp (hs.slots _ _ rfl) fun _ => rfl) (hs.res _ _ rfl) (.tmp (hs.slots _ _ rfl) fun _ => rfl) Tryz.underlying22 ty38 (fun _ => ⟨by omega, (map_get hx)⟩))) ?_
        refine DrawC.step rfl rfl rfl (Loc.of rfl fun σ' hs => (by first | exact R_fieldAddr rfl (.no rfl) (hd_sup hs rfl) (.tmp (hs.slots _ _ rfl) fun _ => rfl) fl38_2 | exact R_fieldAddr_pp rfl (.no rfl) (hd_sup hs rfl) (.tmp (hs.slots _ _ rfl) fun _ => rfl) fl38_2 | exact R_fieldAddr_vw rfl (.no rfl) (hd_sup hs rfl) (.tmp (hs.slots _ _ rfl) fun _ => rfl) fl38_2 | exact R_fieldAddr_pr rfl (.no rfl) (hd_sup hs rfl) (.tmp (hs.slots _ _ rfl) fun _ => rfl) fl38_2)) ?_
        refine DrawC.step rfl rfl rfl (Loc.of rfl fun σ' hs => (by first | exact R_load rfl (.no rfl) (hd_sup hs rfl) (.tmp (hs.slots _ _ rfl) fun _ => rfl) ty34 rfl rfl | exact R_load_pp rfl (.no rfl) (hd_sup hs rfl) (.tmp (hs.slots _ _ rfl) fun _ => rfl) (hs.res _ _ rfl) ty34 rfl rfl | exact R_load_vw rfl (.no rfl) (hd_sup hs rfl) (.tmp (hs.slots _ _ rfl) fun _ => rfl) ty34 rfl rfl | exact R_load_pr rfl (.no rfl) (hd_sup hs rfl) (.tmp (hs.slots _ _ rfl) fun _ => rfl) (hs.res _ _ rfl) (map_get hx) ty34 rfl rfl)) ?_
        refine DrawC.step rfl rfl rfl (Loc.of rfl fun σ' hs => R_callz (FnT.fr (specFormatExpr x.Expr)) rfl (.no rfl) (hd_sup hs rfl) (.cons (.tmp (hs.slots _ _ rfl) fun _ => rfl) (readA_sup hs rfl) .nil)) ?_
        refine DrawC.step rfl rfl rfl (Loc.of rfl fun σ' hs => R_cat rfl (.no rfl) (hd_sup hs rfl) (.tmp (hs.slots _ _ rfl) fun _ => rfl) (.tmp (hs.slots _ _ rfl) fun _ => rfl) (fun _ => by simp only [ByteArray.size_append, bs_size]; omega)) ?_
        refine DrawC.fin rfl rfl ?_
        refine AWl.put (R_assign rfl (.no rfl) rfl (.tmp rfl fun _ => rfl)) rfl ?_
        refine AWl.nil ?_
        refine AW.le (σ' := ⟨_, [(1, _), (2, _), (3, _), (4, _)], []⟩) (Le.sub0 rfl ⟨rfl, rfl, rfl, rfl, trivial⟩ trivial) ?_
        refine AW.region ?_
        refine AWl.put (R_move rfl (.no rfl) rfl (.tmp rfl fun _ => rfl)) rfl ?_
        refine AWl.put (R_add rfl (.no rfl) rfl (.tmp rfl fun _ => rfl) (.const rfl) (fun _ => by omega)) rfl ?_
        refine AWl.put (R_assign rfl (.no rfl) rfl (.tmp rfl fun _ => rfl)) rfl ?_
        refine AWl.nil ?_
        repeat (with_reducible refine BlockQ.nor ?_)
        refine Round2.next (k + 1) (((((((O ++ (ByteArray.mk #[59])) ++ bs (numS x.From)) ++ (ByteArray.mk #[58])) ++ bs (numS x.To)) ++ (ByteArray.mk #[32])) ++ bs (fmtExpr x.Expr))) ⟨by omega, hcs⟩ (by omega) (Le.sub0 rfl ⟨rfl, rfl, rfl, rfl, trivial⟩ trivial)
      · skip
        try simp at h16
        have hcs := conj_step0 hx he (show k = 0 by first | omega | (simp at h16; omega))
        refine AW.skip ?_
        refine AW.le (σ' := ⟨_, [(1, _), (2, _), (3, _), (4, _)], []⟩) (Le.sub0 rfl ⟨rfl, rfl, rfl, rfl, trivial⟩ trivial) ?_
        refine AW.drawn 27 (nthB [[], [], [1], [], [1, 2, 3], [1, 2, 3, 4], [1, 2, 3, 4, 5], [1, 2, 3, 4, 5, 6], [0, 1, 2, 3, 4, 5, 6, 7], [0, 1, 2, 3, 4, 5, 6, 7, 8], [], [10], [], [10, 11, 12], [10, 11, 12, 13], [10, 11, 12, 13, 14], [1, 2, 3, 4, 5, 6, 7, 10, 11, 12, 13, 14, 15], [0, 1, 2, 3, 4, 5, 6, 7, 8, 9, 10, 11, 12, 13, 14, 15, 16], [0, 1, 2, 3, 4, 5, 6, 7, 8, 9, 10, 11, 12, 13, 14, 15, 16, 17], [], [19], [], [19, 20, 21], [19, 20, 21, 22], [19, 20, 21, 22, 23], [1, 2, 3, 4, 5, 6, 7, 10, 11, 12, 13, 14, 15, 16, 19, 20, 21, 22, 23, 24], [0, 1, 2, 3, 4, 5, 6, 7, 8, 9, 10, 11, 12, 13, 14, 15, 16, 17, 18, 19, 20, 21, 22, 23, 24, 25]]) (by kernel_rfl) (by kernel_rfl) (by kernel_rfl) ?_
        refine DrawC.step rfl rfl rfl (Loc.of rfl fun σ' hs => R_move rfl (.no rfl) (hd_sup hs rfl) (.tmp (hs.slots _ _ rfl) fun _ => rfl)) ?_
        refine DrawC.step rfl rfl rfl (Loc.of rfl fun σ' hs => (by first | exact R_fieldAddr rfl (.no rfl) (hd_sup hs rfl) (.tmp (hs.slots _ _ rfl) fun _ => rfl) fl24_1 | exact R_fieldAddr_pp rfl (.no rfl) (hd_sup hs rfl) (.tmp (hs.slots _ _ rfl) fun _ => rfl) fl24_1 | exact R_fieldAddr_vw rfl (.no rfl) (hd_sup hs rfl) (.tmp (hs.slots _ _ rfl) fun _ => rfl) fl24_1 | exact R_fieldAddr_pr rfl (.no rfl) (hd_sup hs rfl) (.tmp (hs.slots _ _ rfl) fun _ => rfl) fl24_1)) ?_
        refine DrawC.step rfl rfl rfl (Loc.of rfl fun σ' hs => (by first | exact R_load rfl (.no rfl) (hd_sup hs rfl) (.tmp (hs.slots _ _ rfl) fun _ => rfl) ty22 rfl rfl | exact R_load_pp rfl (.no rfl) (hd_sup hs rfl) (.tmp (hs.slots _ _ rfl) fun _ => rfl) (hs.res _ _ rfl) ty22 rfl rfl | exact R_load_vw rfl (.no rfl) (hd_sup hs rfl) (.tmp (hs.slots _ _ rfl) fun _ => rfl) ty22 rfl rfl | exact R_load_pr rfl (.no rfl) (hd_sup hs rfl) (.tmp (hs.slots _ _ rfl) fun _ => rfl) (hs.res _ _ rfl) (map_get hx) ty22 rfl rfl)) ?_
        refine DrawC.step rfl rfl rfl (Loc.of rfl fun σ' hs => R_move rfl (.no rfl) (hd_sup hs rfl) (.tmp (hs.slots _ _ rfl) fun _ => rfl)) ?_
        refine DrawC.step rfl rfl rfl (Loc.of rfl fun σ' hs => (by first | exact R_indexAddr rfl (.no rfl) (hd_sup hs rfl) (.tmp (hs.slots _ _ rfl) fun _ => rfl) (.tmp (hs.slots _ _ rfl) fun _ => rfl) Tryz.underlying22 ty38 (fun _ => ⟨by omega, (map_get hx)⟩) | exact R_indexAddr_vw rfl (.no rfl) (hd_sup hs rfl) (.tmp (hs.slots _ _ rfl) fun _ => rfl) (.tmp (hs.slots _ _ rfl) fun _ => rfl) Tryz.underlying22 ty38 (fun _ => ⟨by omega, (map_get hx)⟩) | exact R_indexAddr_rf rfl (.no rfl) (hd_sup hs rfl) (.tmp (hs.slots _ _ rfl) fun _ => rfl) (hs.res _ _ rfl) (.tmp (hs.slots _ _ rfl) fun _ => rfl) Tryz.underlying22 ty38 (fun _ => ⟨by omega, (map_get hx)⟩))) ?_
        refine DrawC.step rfl rfl rfl (Loc.of rfl fun σ' hs => (by first | exact R_fieldAddr rfl (.no rfl) (hd_sup hs rfl) (.tmp (hs.slots _ _ rfl) fun _ => rfl) fl38_0 | exact R_fieldAddr_pp rfl (.no rfl) (hd_sup hs rfl) (.tmp (hs.slots _ _ rfl) fun _ => rfl) fl38_0 | exact R_fieldAddr_vw rfl (.no rfl) (hd_sup hs rfl) (.tmp (hs.slots _ _ rfl) fun _ => rfl) fl38_0 | exact R_fieldAddr_pr rfl (.no rfl) (hd_sup hs rfl) (.tmp (hs.slots _ _ rfl) fun _ => rfl) fl38_0)) ?_
        refine DrawC.step rfl rfl rfl (Loc.of rfl fun σ' hs => (by first | exact R_load rfl (.no rfl) (hd_sup hs rfl) (.tmp (hs.slots _ _ rfl) fun _ => rfl) ty3 rfl rfl | exact R_load_pp rfl (.no rfl) (hd_sup hs rfl) (.tmp (hs.slots _ _ rfl) fun _ => rfl) (hs.res _ _ rfl) ty3 rfl rfl | exact R_load_vw rfl (.no rfl) (hd_sup hs rfl) (.tmp (hs.slots _ _ rfl) fun _ => rfl) ty3 rfl rfl | exact R_load_pr rfl (.no rfl) (hd_sup hs rfl) (.tmp (hs.slots _ _ rfl) fun _ => rfl) (hs.res _ _ rfl) (map_get hx) ty3 rfl rfl)) ?_
        refine DrawC.step rfl rfl rfl (Loc.of rfl fun σ' hs => R_callz (FnT.fr (specFormatInt x.From (by omega) (by omega))) rfl (.no rfl) (hd_sup hs rfl) (.cons (.tmp (hs.slots _ _ rfl) fun _ => rfl) (readA_sup hs rfl) .nil)) ?_
        refine DrawC.step rfl rfl rfl (Loc.of rfl fun σ' hs => R_cat rfl (.no rfl) (hd_sup hs rfl) (.tmp (hs.slots _ _ rfl) fun _ => rfl) (.tmp (hs.slots _ _ rfl) fun _ => rfl) (fun _ => by simp only [ByteArray.size_append, bs_size]; omega)) ?_
        refine DrawC.step rfl rfl rfl (Loc.of rfl fun σ' hs => R_cat rfl (.no rfl) (hd_sup hs rfl) (.tmp (hs.slots _ _ rfl) fun _ => rfl) (.const rfl) (fun _ => by simp only [ByteArray.size_append, bs_size]; omega)) ?_
        refine DrawC.step rfl rfl rfl (Loc.of rfl fun σ' hs => (by first | exact R_fieldAddr rfl (.no rfl) (hd_sup hs rfl) (.tmp (hs.slots _ _ rfl) fun _ => rfl) fl24_1 | exact R_fieldAddr_pp rfl (.no rfl) (hd_sup hs rfl) (.tmp (hs.slots _ _ rfl) fun _ => rfl) fl24_1 | exact R_fieldAddr_vw rfl (.no rfl) (hd_sup hs rfl) (.tmp (hs.slots _ _ rfl) fun _ => rfl) fl24_1 | exact R_fieldAddr_pr rfl (.no rfl) (hd_sup hs rfl) (.tmp (hs.slots _ _ rfl) fun _ => rfl) fl24_1)) ?_
        refine DrawC.step rfl rfl rfl (Loc.of rfl fun σ' hs => (by first | exact R_load rfl (.no rfl) (hd_sup hs rfl) (.tmp (hs.slots _ _ rfl) fun _ => rfl) ty22 rfl rfl | exact R_load_pp rfl (.no rfl) (hd_sup hs rfl) (.tmp (hs.slots _ _ rfl) fun _ => rfl) (hs.res _ _ rfl) ty22 rfl rfl | exact R_load_vw rfl (.no rfl) (hd_sup hs rfl) (.tmp (hs.slots _ _ rfl) fun _ => rfl) ty22 rfl rfl | exact R_load_pr rfl (.no rfl) (hd_sup hs rfl) (.tmp (hs.slots _ _ rfl) fun _ => rfl) (hs.res _ _ rfl) (map_get hx) ty22 rfl rfl)) ?_
        refine DrawC.step rfl rfl rfl (Loc.of rfl fun σ' hs => R_move rfl (.no rfl) (hd_sup hs rfl) (.tmp (hs.slots _ _ rfl) fun _ => rfl)) ?_
        refine DrawC.step rfl rfl rfl (Loc.of rfl fun σ' hs => (by first | exact R_indexAddr rfl (.no rfl) (hd_sup hs rfl) (.tmp (hs.slots _ _ rfl) fun _ => rfl) (.tmp (hs.slots _ _ rfl) fun _ => rfl) Tryz.underlying22 ty38 (fun _ => ⟨by omega, (map_get hx)⟩) | exact R_indexAddr_vw rfl (.no rfl) (hd_sup hs rfl) (.tmp (hs.slots _ _ rfl) fun _ => rfl) (.tmp (hs.slots _ _ rfl) fun _ => rfl) Tryz.underlying22 ty38 (fun _ => ⟨by omega, (map_get hx)⟩) | exact R_indexAddr_rf rfl (.no rfl) (hd_sup hs rfl) (.tmp (hs.slots _ _ rfl) fun _ => rfl) (hs.res _ _ rfl) (.tmp (hs.slots _ _ rfl) fun _ => rfl) Tryz.underlying22 ty38 (fun _ => ⟨by omega, (map_get hx)⟩))) ?_
        refine DrawC.step rfl rfl rfl (Loc.of rfl fun σ' hs => (by first | exact R_fieldAddr rfl (.no rfl) (hd_sup hs rfl) (.tmp (hs.slots _ _ rfl) fun _ => rfl) fl38_1 | exact R_fieldAddr_pp rfl (.no rfl) (hd_sup hs rfl) (.tmp (hs.slots _ _ rfl) fun _ => rfl) fl38_1 | exact R_fieldAddr_vw rfl (.no rfl) (hd_sup hs rfl) (.tmp (hs.slots _ _ rfl) fun _ => rfl) fl38_1 | exact R_fieldAddr_pr rfl (.no rfl) (hd_sup hs rfl) (.tmp (hs.slots _ _ rfl) fun _ => rfl) fl38_1)) ?_
        refine DrawC.step rfl rfl rfl (Loc.of rfl fun σ' hs => (by first | exact R_load rfl (.no rfl) (hd_sup hs rfl) (.tmp (hs.slots _ _ rfl) fun _ => rfl) ty3 rfl rfl | exact R_load_pp rfl (.no rfl) (hd_sup hs rfl) (.tmp (hs.slots _ _ rfl) fun _ => rfl) (hs.res _ _ rfl) ty3 rfl rfl | exact R_load_vw rfl (.no rfl) (hd_sup hs rfl) (.tmp (hs.slots _ _ rfl) fun _ => rfl) ty3 rfl rfl | exact R_load_pr rfl (.no rfl) (hd_sup hs rfl) (.tmp (hs.slots _ _ rfl) fun _ => rfl) (hs.res _ _ rfl) (map_get hx) ty3 rfl rfl)) ?_
        refine DrawC.step rfl rfl rfl (Loc.of rfl fun σ' hs => R_callz (FnT.fr (specFormatInt x.To (by omega) (by omega))) rfl (.no rfl) (hd_sup hs rfl) (.cons (.tmp (hs.slots _ _ rfl) fun _ => rfl) (readA_sup hs rfl) .nil)) ?_
        refine DrawC.step rfl rfl rfl (Loc.of rfl fun σ' hs => R_cat rfl (.no rfl) (hd_sup hs rfl) (.tmp (hs.slots _ _ rfl) fun _ => rfl) (.tmp (hs.slots _ _ rfl) fun _ => rfl) (fun _ => by simp only [ByteArray.size_append, bs_size]; omega)) ?_
        refine DrawC.step rfl rfl rfl (Loc.of rfl fun σ' hs => R_cat rfl (.no rfl) (hd_sup hs rfl) (.tmp (hs.slots _ _ rfl) fun _ => rfl) (.const rfl) (fun _ => by simp only [ByteArray.size_append, bs_size]; omega)) ?_
        refine DrawC.step rfl rfl rfl (Loc.of rfl fun σ' hs => (by first | exact R_fieldAddr rfl (.no rfl) (hd_sup hs rfl) (.tmp (hs.slots _ _ rfl) fun _ => rfl) fl24_1 | exact R_fieldAddr_pp rfl (.no rfl) (hd_sup hs rfl) (.tmp (hs.slots _ _ rfl) fun _ => rfl) fl24_1 | exact R_fieldAddr_vw rfl (.no rfl) (hd_sup hs rfl) (.tmp (hs.slots _ _ rfl) fun _ => rfl) fl24_1 | exact R_fieldAddr_pr rfl (.no rfl) (hd_sup hs rfl) (.tmp (hs.slots _ _ rfl) fun _ => rfl) fl24_1)) ?_
        refine DrawC.step rfl rfl rfl (Loc.of rfl fun σ' hs => (by first | exact R_load rfl (.no rfl) (hd_sup hs rfl) (.tmp (hs.slots _ _ rfl) fun _ => rfl) ty22 rfl rfl | exact R_load_pp rfl (.no rfl) (hd_sup hs rfl) (.tmp (hs.slots _ _ rfl) fun _ => rfl) (hs.res _ _ rfl) ty22 rfl rfl | exact R_load_vw rfl (.no rfl) (hd_sup hs rfl) (.tmp (hs.slots _ _ rfl) fun _ => rfl) ty22 rfl rfl | exact R_load_pr rfl (.no rfl) (hd_sup hs rfl) (.tmp (hs.slots _ _ rfl) fun _ => rfl) (hs.res _ _ rfl) (map_get hx) ty22 rfl rfl)) ?_
        refine DrawC.step rfl rfl rfl (Loc.of rfl fun σ' hs => R_move rfl (.no rfl) (hd_sup hs rfl) (.tmp (hs.slots _ _ rfl) fun _ => rfl)) ?_
        refine DrawC.step rfl rfl rfl (Loc.of rfl fun σ' hs => (by first | exact R_indexAddr rfl (.no rfl) (hd_sup hs rfl) (.tmp (hs.slots _ _ rfl) fun _ => rfl) (.tmp (hs.slots _ _ rfl) fun _ => rfl) Tryz.underlying22 ty38 (fun _ => ⟨by omega, (map_get hx)⟩) | exact R_indexAddr_vw rfl (.no rfl) (hd_sup hs rfl) (.tmp (hs.slots _ _ rfl) fun _ => rfl) (.tmp (hs.slots _ _ rfl) fun _ => rfl) Tryz.underlying22 ty38 (fun _ => ⟨by omega, (map_get hx)⟩) | exact R_indexAddr_rf rfl (.no rfl) (hd_sup hs rfl) (.tmp (hs.slots _ _ rfl) fun _ => rfl) (hs.res _ _ rfl) (.tmp (hs.slots _ _ rfl) fun _ => rfl) Tryz.underlying22 ty38 (fun _ => ⟨by omega, (map_get hx)⟩))) ?_
        refine DrawC.step rfl rfl rfl (Loc.of rfl fun σ' hs => (by first | exact R_fieldAddr rfl (.no rfl) (hd_sup hs rfl) (.tmp (hs.slots _ _ rfl) fun _ => rfl) fl38_2 | exact R_fieldAddr_pp rfl (.no rfl) (hd_sup hs rfl) (.tmp (hs.slots _ _ rfl) fun _ => rfl) fl38_2 | exact R_fieldAddr_vw rfl (.no rfl) (hd_sup hs rfl) (.tmp (hs.slots _ _ rfl) fun _ => rfl) fl38_2 | exact R_fieldAddr_pr rfl (.no rfl) (hd_sup hs rfl) (.tmp (hs.slots _ _ rfl) fun _ => rfl) fl38_2)) ?_
        refine DrawC.step rfl rfl rfl (Loc.of rfl fun σ' hs => (by first | exact R_load rfl (.no rfl) (hd_sup hs rfl) (.tmp (hs.slots _ _ rfl) fun _ => rfl) ty34 rfl rfl | exact R_load_pp rfl (.no rfl) (hd_sup hs rfl) (.tmp (hs.slots _ _ rfl) fun _ => rfl) (hs.res _ _ rfl) ty34 rfl rfl | exact R_load_vw rfl (.no rfl) (hd_sup hs rfl) (.tmp (hs.slots _ _ rfl) fun _ => rfl) ty34 rfl rfl | exact R_load_pr rfl (.no rfl) (hd_sup hs rfl) (.tmp (hs.slots _ _ rfl) fun _ => rfl) (hs.res _ _ rfl) (map_get hx) ty34 rfl rfl)) ?_
        refine DrawC.step rfl rfl rfl (Loc.of rfl fun σ' hs => R_callz (FnT.fr (specFormatExpr x.Expr)) rfl (.no rfl) (hd_sup hs rfl) (.cons (.tmp (hs.slots _ _ rfl) fun _ => rfl) (readA_sup hs rfl) .nil)) ?_
        refine DrawC.step rfl rfl rfl (Loc.of rfl fun σ' hs => R_cat rfl (.no rfl) (hd_sup hs rfl) (.tmp (hs.slots _ _ rfl) fun _ => rfl) (.tmp (hs.slots _ _ rfl) fun _ => rfl) (fun _ => by simp only [ByteArray.size_append, bs_size]; omega)) ?_
        refine DrawC.fin rfl rfl ?_
        refine AWl.put (R_assign rfl (.no rfl) rfl (.tmp rfl fun _ => rfl)) rfl ?_
        refine AWl.nil ?_
        refine AW.le (σ' := ⟨_, [(1, _), (2, _), (3, _), (4, _)], []⟩) (Le.sub0 rfl ⟨rfl, rfl, rfl, rfl, trivial⟩ trivial) ?_
        refine AW.region ?_
        refine AWl.put (R_move rfl (.no rfl) rfl (.tmp rfl fun _ => rfl)) rfl ?_
        refine AWl.put (R_add rfl (.no rfl) rfl (.tmp rfl fun _ => rfl) (.const rfl) (fun _ => by omega)) rfl ?_
        refine AWl.put (R_assign rfl (.no rfl) rfl (.tmp rfl fun _ => rfl)) rfl ?_
        refine AWl.nil ?_
        repeat (with_reducible refine BlockQ.nor ?_)
        refine Round2.next (k + 1) ((((((O ++ bs (numS x.From)) ++ (ByteArray.mk #[58])) ++ bs (numS x.To)) ++ (ByteArray.mk #[32])) ++ bs (fmtExpr x.Expr))) ⟨by omega, hcs⟩ (by omega) (Le.sub0 rfl ⟨rfl, rfl, rfl, rfl, trivial⟩ trivial)
    · skip
      try simp at h12
      refine AW.exit ?_
      refine AW.seq ?_
      refine AW.region ?_
      refine AWl.put (R_move rfl (.no rfl) rfl (.tmp rfl fun _ => rfl)) rfl ?_
      refine AWl.put (R_assign rfl (.no rfl) rfl (.tmp rfl fun _ => rfl)) rfl ?_
      refine AWl.nil ?_
      refine AW.ret ?_
      refine Res.v rfl rfl ?_
      (unfold fmtConj; rw [if_pos hv, he, List.take_of_length_le (by omega)])
end Go.Proofs.YtoealglkenhphaaGreatDoor
