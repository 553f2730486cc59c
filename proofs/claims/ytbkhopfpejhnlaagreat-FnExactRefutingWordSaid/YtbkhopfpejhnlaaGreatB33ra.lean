import Derived.Test.YtbkhopfpejhnlaaGreatB28ra
set_option linter.unusedVariables false
set_option linter.unusedSimpArgs false
set_option maxHeartbeats 1000000
set_option maxRecDepth 100000
namespace Go.Q
open Go.D
end Go.Q
namespace Go.Proofs.YtbkhopfpejhnlaaGreat
open Go.RowKit Go.Q Go.D
theorem implpairSet' (L : List (List T)) (l : List TPair) (hL : L = l.map cPair) (hz : l.length ≤ 4294967296) : FnT Tryz.prog 127 [.one (.sl 2 L)] (.a (.one (.sl 2 ((setG pless l).map cPair)))) := by
 subst hL; exact implpairSet l hz
theorem implMergePairs (a b : List TPair) (hz : a.length + b.length ≤ 1073741824) : FnT Tryz.prog 109 [.one (.sl 2 (a.map cPair)), .one (.sl 2 (b.map cPair))] (.a (.one (.sl 2 ((pmerge a b).map cPair)))) := by
 refine FnT.walk Tryz.func109 rfl (by kernel_rfl) Tryz.ntmps109 rfl fun hlen w0 => ?_
 try simp [cPair, cToken, cExpr, cEdge, cGraph, cStep, cWalk, cChange, cBatch, cHistory, cPositions, cAutomaton, cProductStep, cPathAtom, cConjunction, cView, cDelta, cRegistered, cRegistry] at hlen
 refine AW.sr ?_
 refine AWl.ac rfl rfl rfl rfl rfl ?_
 refine AWl.nilS (i := 4) 20001 2 rfl rfl ?_
 refine AWl.nil (AW.sr ?_)
 refine AWl.add (R_empty 5 rfl rfl rfl Tryz.underlying58 ty63 rfl) rfl ?_
 refine AWl.mv rfl rfl rfl rfl rfl ?_
 refine AWl.chgput (R_append rfl rfl rfl (.tm rfl) rfl (.tm rfl) (by exact .t) (by exact isV_map (fun _ => rfl) _) Tryz.underlying58 in63 rfl (by (simp [chunk]; omega)) (by (unfold maxLen; simp [chunk]; omega))) rfl ?_
 refine AWl.le (σ' := ⟨_, [(0, _), (1, _), (4, _), (7, _)], [(20001, _), (5, _)]⟩) (Le.sub0 rfl ⟨rfl, rfl, rfl, rfl, trivial⟩ ⟨rfl, rfl, trivial⟩) ?_
 refine AWl.mv rfl rfl rfl rfl rfl ?_
 refine AWl.chgput (R_append rfl rfl rfl (.tm rfl) rfl (.tm rfl) (by exact .t) (by exact isV_map (fun _ => rfl) _) Tryz.underlying58 in63 rfl (by (simp [chunk]; omega)) (by (unfold maxLen; simp [chunk]; omega))) rfl ?_
 refine AWl.le (σ' := ⟨_, [(0, _), (1, _), (4, _), (9, _)], [(20001, _), (5, _)]⟩) (Le.sub0 rfl ⟨rfl, rfl, rfl, rfl, trivial⟩ ⟨rfl, rfl, trivial⟩) ?_
 refine AWl.adds (R_call 1000 (implpairSet' ([] ++ a.map cPair ++ b.map cPair) (a ++ b) (by simp) (by simp; omega)) rfl rfl rfl (.cons (.tm rfl) rfl .nil) rfl rfl) rfl ?_
 refine AWl.av rfl rfl rfl rfl rfl ?_
 refine AWl.nil (AW.ret ?_)
 refine Res.one rfl (.tmp rfl .nil) rfl ?_
 rfl
theorem specMergePairs (a b : List TPair) (hz : a.length + b.length ≤ 1073741824) : FnT Tryz.prog 84 [.one (.sl 2 (a.map cPair)), .one (.sl 2 (b.map cPair))] (.a (.one (.sl 2 ((pmerge a b).map cPair)))) := by
 refine FnT.walk Tryz.func84 rfl (by kernel_rfl) Tryz.ntmps84 rfl fun hlen w0 => ?_
 try simp [cPair, cToken, cExpr, cEdge, cGraph, cStep, cWalk, cChange, cBatch, cHistory, cPositions, cAutomaton, cProductStep, cPathAtom, cConjunction, cView, cDelta, cRegistered, cRegistry] at hlen
 refine AW.sr ?_
 refine AWl.ac rfl rfl rfl rfl rfl ?_
 refine AWl.nilS (i := 4) 20001 2 rfl rfl ?_
 refine AWl.nil (AW.sr ?_)
 refine AWl.add (R_empty 8 rfl rfl rfl Tryz.underlying58 ty63 rfl) rfl ?_
 refine AWl.av rfl rfl rfl rfl rfl ?_
 refine AWl.nil (AW.seq ?_)
 refine AW.sr ?_
 refine AWl.ac rfl rfl rfl rfl rfl ?_
 refine AWl.nil (AW.block ?_)
 refine AW.loop1 (fun (k : Nat) => (k ≤ a.length) ∧ True) (fun (k : Nat) => ⟨_, [(6, (true, .a (.one (.t (.v (.int .i64 (k : Nat))))))), (5, (true, .a (.one (.rf 8)))), (0, _), (1, _), (4, _)], [(8, .row 2 ((setG pless (a.take k)).map cPair))]⟩) (fun (k : Nat) => a.length - k) (0) ⟨Nat.zero_le _, trivial⟩ (Le.sub0 rfl ⟨rfl, rfl, rfl, rfl, rfl, trivial⟩ ⟨rfl, trivial⟩) ?_
 rintro k ⟨hk, he⟩
 refine AW.seq ?_
 refine AW.sr ?_
 refine AWl.mv rfl rfl rfl rfl rfl ?_
 refine AWl.mv rfl rfl rfl rfl rfl ?_
 refine AWl.put (by exact R_lenm rfl (.no rfl) rfl (.tm rfl) (by exact .t) Tryz.underlying58) rfl ?_
 refine AWl.put (R_lt rfl (.no rfl) rfl (.tm rfl) (.tm rfl)) rfl ?_
 refine AWl.nil ?_
 refine AW.cond (.tm rfl) (fun h12 => ?_) (fun h12 => ?_)
 · skip
   try simp at h12
   obtain ⟨x, hx⟩ : ∃ ξ, a[k]? = some ξ := ⟨_, List.getElem?_eq_getElem (by omega)⟩
   refine AW.skip ?_
   refine AW.seq ?_
   refine AW.block ?_
   refine AW.region ?_
   refine AWl.mv rfl rfl rfl rfl rfl ?_
   refine AWl.mv rfl rfl rfl rfl rfl ?_
   refine AWl.mv rfl rfl rfl rfl rfl ?_
   refine AWl.put (by exact R_indexAddr rfl (.no rfl) rfl (.tm rfl) (.tm rfl) Tryz.underlying58 ty63 (fun _ => ⟨by omega, (by exact map_get hx)⟩)) rfl ?_
   refine AWl.put (by exact R_load rfl (.no rfl) rfl (.tm rfl) ty63 rfl rfl) rfl ?_
   apply AWl.consume
   case ho =>
    apply R_consume (xo := .tmp 15) 8 (specl15Put (setG pless (a.take k)) x (Nat.le_trans (setG_len _) (by simp; omega))) rfl rfl rfl (.tm rfl)
    case ha => rfl
    case hargs => exact (ArgC.own (ArgRd.agg (.tm rfl) .nil))
    all_goals rfl
   case hd => rfl
   refine AWl.av rfl rfl rfl rfl rfl ?_
   refine AWl.nil ?_
   refine AW.le (σ' := ⟨_, [(0, _), (1, _), (4, _), (5, _), (6, _)], [(8, _)]⟩) (Le.sub0 rfl ⟨rfl, rfl, rfl, rfl, rfl, trivial⟩ ⟨rfl, trivial⟩) ?_
   refine AW.region ?_
   refine AWl.mv rfl rfl rfl rfl rfl ?_
   refine AWl.put (R_add rfl (.no rfl) rfl (.tm rfl) (.const rfl) (fun _ => by omega)) rfl ?_
   refine AWl.av rfl rfl rfl rfl rfl ?_
   refine AWl.nil ?_
   repeat (with_reducible refine BlockQ.nor ?_)
   refine Round1.next (k + 1) ⟨by omega, trivial⟩ (by omega) (Le.sub0 rfl ⟨rfl, rfl, rfl, rfl, rfl, trivial⟩ ⟨(by refine congrArg (fun r => some (R.row 2 r)) ?_; first | (simp [take_at hx, setG, List.foldl_append]; done) | (simp [take_at hy, setG, List.foldl_append]; done)), trivial⟩)
 · skip
   try simp at h12
   refine AW.exit ?_
   refine AW.seq ?_
   refine AW.seq ?_
   refine AW.le (σ' := ⟨_, [(0, _), (1, _), (4, _), (5, _), (6, _)], [(8, .row 2 ((setG pless (a ++ b.take 0)).map cPair))]⟩) (Le.sub0 rfl ⟨rfl, rfl, rfl, rfl, rfl, trivial⟩ ⟨by refine congrArg (fun r => some (R.row 2 r)) ?_; rw [List.take_of_length_le (by omega)]; simp, trivial⟩) ?_
   refine AW.region ?_
   refine AWl.ac rfl rfl rfl rfl rfl ?_
   refine AWl.nil (AW.block ?_)
   refine AW.loop1 (fun (k2 : Nat) => (k2 ≤ b.length) ∧ True) (fun (k2 : Nat) => ⟨_, [(7, (true, .a (.one (.t (.v (.int .i64 (k2 : Nat))))))), (5, (true, .a (.one (.rf 8)))), (1, _), (4, _)], [(8, .row 2 ((setG pless (a ++ b.take k2)).map cPair))]⟩) (fun (k2 : Nat) => b.length - k2) (0) ⟨Nat.zero_le _, trivial⟩ (Le.sub0 rfl ⟨rfl, rfl, rfl, rfl, trivial⟩ ⟨rfl, trivial⟩) ?_
   rintro k2 ⟨hk1, he1⟩
   refine AW.seq ?_
   refine AW.sr ?_
   refine AWl.mv rfl rfl rfl rfl rfl ?_
   refine AWl.mv rfl rfl rfl rfl rfl ?_
   refine AWl.put (by exact R_lenm rfl (.no rfl) rfl (.tm rfl) (by exact .t) Tryz.underlying58) rfl ?_
   refine AWl.put (R_lt rfl (.no rfl) rfl (.tm rfl) (.tm rfl)) rfl ?_
   refine AWl.nil ?_
   refine AW.cond (.tm rfl) (fun h24 => ?_) (fun h24 => ?_)
   · skip
     try simp at h24
     obtain ⟨y, hy⟩ : ∃ ξ, b[k2]? = some ξ := ⟨_, List.getElem?_eq_getElem (by omega)⟩
     refine AW.skip ?_
     refine AW.seq ?_
     refine AW.block ?_
     refine AW.region ?_
     refine AWl.mv rfl rfl rfl rfl rfl ?_
     refine AWl.mv rfl rfl rfl rfl rfl ?_
     refine AWl.mv rfl rfl rfl rfl rfl ?_
     refine AWl.put (by exact R_indexAddr rfl (.no rfl) rfl (.tm rfl) (.tm rfl) Tryz.underlying58 ty63 (fun _ => ⟨by omega, (by exact map_get hy)⟩)) rfl ?_
     refine AWl.put (by exact R_load rfl (.no rfl) rfl (.tm rfl) ty63 rfl rfl) rfl ?_
     apply AWl.consume
     case ho =>
      apply R_consume (xo := .tmp 27) 8 (specl15Put (setG pless (a ++ b.take k2)) y (Nat.le_trans (setG_len _) (by simp; omega))) rfl rfl rfl (.tm rfl)
      case ha => rfl
      case hargs => exact (ArgC.own (ArgRd.agg (.tm rfl) .nil))
      all_goals rfl
     case hd => rfl
     refine AWl.av rfl rfl rfl rfl rfl ?_
     refine AWl.nil ?_
     refine AW.le (σ' := ⟨_, [(1, _), (4, _), (5, _), (7, _)], [(8, _)]⟩) (Le.sub0 rfl ⟨rfl, rfl, rfl, rfl, trivial⟩ ⟨rfl, trivial⟩) ?_
     refine AW.region ?_
     refine AWl.mv rfl rfl rfl rfl rfl ?_
     refine AWl.put (R_add rfl (.no rfl) rfl (.tm rfl) (.const rfl) (fun _ => by omega)) rfl ?_
     refine AWl.av rfl rfl rfl rfl rfl ?_
     refine AWl.nil ?_
     repeat (with_reducible refine BlockQ.nor ?_)
     refine Round1.next (k2 + 1) ⟨by omega, trivial⟩ (by omega) (Le.sub0 rfl ⟨rfl, rfl, rfl, rfl, trivial⟩ ⟨(by refine congrArg (fun r => some (R.row 2 r)) ?_; first | (simp [take_at hx, setG, List.foldl_append]; done) | (simp [take_at hy, setG, List.foldl_append]; done)), trivial⟩)
   · skip
     try simp at h24
     refine AW.exit ?_
     refine AW.sr ?_
     refine AWl.mv rfl rfl rfl rfl rfl ?_
     refine AWl.av rfl rfl rfl rfl rfl ?_
     refine AWl.nil (AW.ret ?_)
     refine Res.one rfl (.tmp rfl .nil) rfl ?_
     unfold pmerge; rw [List.take_of_length_le (by omega)]; rfl
end Go.Proofs.YtbkhopfpejhnlaaGreat
