import Derived.Test.YtbkhopfpejhnlaaGreatB78rb
import Derived.Test.YtbkhopfpejhnlaaGreatB84rb
import Derived.Test.YtbkhopfpejhnlaaGreatB03rb
import Derived.Lib.IndexMore
import Derived.Lib.SlTrimSet
set_option linter.unusedVariables false
set_option linter.unusedSimpArgs false
set_option maxHeartbeats 1000000
set_option maxRecDepth 100000
namespace Go.Proofs.YtbkhopfpejhnlaaGreat
open Go.RowKit Go.Q Go.D
theorem specl2Cut (l : List UInt8) (c : UInt8) (hz : l.length ≤ 1073741824) : FnT Tryz.prog 134 [.one (.v (.string (bs l))), .one (.v (.int .u8 c.toNat))] (.a (.one (.sl 1 ((splitL c l).map cStr)))) := by
 refine FnT.walk Tryz.func134 U (by kernel_rfl) Tryz.ntmps134 U fun hlen w0 => ?_
 try simp [cPair, cToken, cExpr, cEdge, cGraph, cStep, cWalk, cChange, cBatch, cHistory, cPositions, cAutomaton, cProductStep, cPathAtom, cConjunction, cView, cDelta, cRegistered, cRegistry] at hlen
 have hsz := bs_size l
 refine AW.sr ?_
 refine AWl.ac U U U U U ?_
 refine AWl.nilS (i := 4) 20001 1 U U ?_
 refine AWl.nil (AW.sr ?_)
 refine AWl.add (R_empty 8 U U U Tryz.underlying140 ty9 U) U ?_
 refine AWl.av U U U U U ?_
 refine AWl.nil (AW.sr ?_)
 refine AWl.ac U U U U U ?_
 refine AWl.nil (AW.seq ?_)
 refine AW.sr ?_
 refine AWl.ac U U U U U ?_
 refine AWl.nil (AW.block ?_)
 refine AW.loop3 (fun (i : Nat) (F : Nat) (O : List (List UInt8)) => (F ≤ i ∧ i ≤ l.length ∧ c ∉ (l.take i).drop F ∧ O.length ≤ i) ∧ splitL c l = O ++ splitL c (l.drop F)) (fun (i : Nat) (F : Nat) (O : List (List UInt8)) => ⟨_, [(6, (true, .a (.one (.t (.v (.int .i64 F)))))), (7, (true, .a (.one (.t (.v (.int .i64 i)))))), (5, (true, .a (.one (.rf 8)))), (0, _), (1, _), (4, _)], [(8, .row 1 (O.map cStr))]⟩) (fun (i : Nat) (F : Nat) (O : List (List UInt8)) => l.length - i) (0) (0) ([]) ⟨⟨by omega, by omega, by simp, by simp⟩, (by simp)⟩ (Le.sub0 U ⟨U, U, U, U, U, U, trivial⟩ ⟨U, trivial⟩) ?_
 rintro i F O ⟨hk, he⟩
 refine AW.seq ?_
 refine AW.sr ?_
 refine AWl.mv U U U U U ?_
 refine AWl.mv U U U U U ?_
 refine AWl.put (R_len_s U (.no U) U (.tm U) Tryz.underlying9) U ?_
 refine AWl.put (R_lt U (.no U) U (.tm U) (.tm U)) U ?_
 refine AWl.nil ?_
 refine AW.cond (.tm U) (fun h12 => ?_) (fun h12 => ?_)
 · skip
   try simp at h12
   obtain ⟨b, hb⟩ : ∃ ξ, l[i]? = some ξ := ⟨_, List.getElem?_eq_getElem (by omega)⟩
   refine AW.skip ?_
   refine AW.seq ?_
   refine AW.block ?_
   refine AW.sr ?_
   refine AWl.mv U U U U U ?_
   refine AWl.mv U U U U U ?_
   refine AWl.put (R_strIndex U (.no U) U (.tm U) (.tm U) Tryz.underlying9 (fun _ => ⟨by omega, (by rw [bs_get]; exact hb)⟩)) U ?_
   refine AWl.mv U U U U U ?_
   refine AWl.put (R_eq U (.no U) U (.tm U) (.tm U)) U ?_
   refine AWl.nil ?_
   refine AW.cond (.tm U) (fun h19 => ?_) (fun h19 => ?_)
   · skip
     try simp at h19
     refine AW.seq ?_
     refine AW.le (σ' := ⟨_, [(0, _), (1, _), (4, _), (5, _), (6, _), (7, _)], [(8, _)]⟩) (Le.sub0 U ⟨U, U, U, U, U, U, trivial⟩ ⟨U, trivial⟩) ?_
     refine AW.region ?_
     refine AWl.mv U U U U U ?_
     refine AWl.mv U U U U U ?_
     refine AWl.mv U U U U U ?_
     refine AWl.mv U U U U U ?_
     refine AWl.put (R_strSlice (n := F) (m := i) U (.no U) U (.tm U) (.yes (.tm U) (fun _ => by first | omega | (simp <;> omega))) (.yes (.tm U) (fun _ => by first | omega | (simp <;> omega))) Tryz.underlying9 (fun _ => ⟨by omega, by first | omega | (simp; omega)⟩)) U ?_
     refine AWl.absadd (R_list (xs := [.tmp 24]) 25 U U U (.cons (.tm U) U U .nil) Tryz.underlying140 in9 U U U U) U ?_
     refine AWl.chgput (R_append U U U (.tm U) U (.tm U) (by exact .rf U) (by rfl) Tryz.underlying140 in9 U (by (simp [chunk]; omega)) (by (unfold maxLen; simp [chunk]; omega))) U ?_
     refine AWl.le (σ' := ⟨_, [(0, _), (1, _), (4, _), (5, _), (6, _), (7, _), (26, _)], [(8, _), (25, _)]⟩) (Le.sub0 U ⟨U, U, U, U, U, U, U, trivial⟩ ⟨U, U, trivial⟩) ?_
     refine AWl.av U U U U U ?_
     refine AWl.nil (AW.region ?_)
     refine AWl.mv U U U U U ?_
     refine AWl.put (R_add U (.no U) U (.tm U) (.const U) (fun _ => by omega)) U ?_
     refine AWl.av U U U U U ?_
     refine AWl.nil (AW.region ?_)
     refine AWl.mv U U U U U ?_
     refine AWl.put (R_add U (.no U) U (.tm U) (.const U) (fun _ => by omega)) U ?_
     refine AWl.av U U U U U ?_
     refine AWl.nil ?_
     repeat (with_reducible refine BlockQ.nor ?_)
     refine Round3.next (i + 1) (i + 1) (O ++ [(l.take i).drop F]) ⟨⟨by omega, by omega, (by simp), (by rw [List.length_append, List.length_singleton]; omega)⟩, (cut_step hb hk (UInt8.toNat_inj.1 (by omega)) he)⟩ (by omega) (Le.sub0 rfl ⟨rfl, rfl, rfl, rfl, rfl, rfl, trivial⟩ ⟨(by refine congrArg (fun r => some (R.row 1 r)) ?_; simp [chunk, cStr, bs_extract]; done), trivial⟩)
   · skip
     try simp at h19
     refine AW.skip ?_
     refine AW.le (σ' := ⟨_, [(0, _), (1, _), (4, _), (5, _), (6, _), (7, _)], [(8, _)]⟩) (Le.sub0 U ⟨U, U, U, U, U, U, trivial⟩ ⟨U, trivial⟩) ?_
     refine AW.region ?_
     refine AWl.mv U U U U U ?_
     refine AWl.put (R_add U (.no U) U (.tm U) (.const U) (fun _ => by omega)) U ?_
     refine AWl.av U U U U U ?_
     refine AWl.nil ?_
     repeat (with_reducible refine BlockQ.nor ?_)
     refine Round3.next (i + 1) (F) (O) ⟨⟨by omega, by omega, cut_keep hb hk (fun e => h19 (by rw [e])), by omega⟩, he⟩ (by omega) (Le.sub0 rfl ⟨rfl, rfl, rfl, rfl, rfl, rfl, trivial⟩ ⟨(by refine congrArg (fun r => some (R.row 1 r)) ?_; simp [chunk, cStr, bs_extract]; done), trivial⟩)
 · skip
   try simp at h12
   refine AW.exit ?_
   refine AW.sr ?_
   refine AWl.mv U U U U U ?_
   refine AWl.mv U U U U U ?_
   refine AWl.mv U U U U U ?_
   refine AWl.put (R_strSlice (n := F) U (.no U) U (.tm U) (.yes (.tm U) (fun _ => by first | omega | (simp <;> omega))) .no Tryz.underlying9 (fun _ => ⟨by omega, by first | omega | (simp; omega)⟩)) U ?_
   refine AWl.absadd (R_list (xs := [.tmp 32]) 33 U U U (.cons (.tm U) U U .nil) Tryz.underlying140 in9 U U U U) U ?_
   refine AWl.chgput (R_append U U U (.tm U) U (.tm U) (by exact .rf U) (by rfl) Tryz.underlying140 in9 U (by (simp [chunk]; omega)) (by (unfold maxLen; simp [chunk]; omega))) U ?_
   refine AWl.le (σ' := ⟨_, [(0, _), (1, _), (4, _), (5, _), (6, _), (7, _), (12, _), (34, _)], [(8, _), (33, _)]⟩) (Le.sub0 U ⟨U, U, U, U, U, U, U, U, trivial⟩ ⟨U, U, trivial⟩) ?_
   refine AWl.av U U U U U ?_
   refine AWl.nil (AW.ret ?_)
   refine Res.one U (.tmp U .nil) U ?_
   (have hi : i = l.length := (by omega); subst hi; rw [he, splitL_no (by rw [List.take_of_length_le (Nat.le_refl _)] at hk; exact hk.2.2.1)]; refine congrArg (fun r => [V0.one (T.sl 1 r)]) ?_; simp [chunk, cStr, bs_extract, hsz]; done)
end Go.Proofs.YtbkhopfpejhnlaaGreat
set_option maxHeartbeats 1000000
set_option maxRecDepth 100000
namespace Go.Q
open Go.D
end Go.Q
set_option maxHeartbeats 1000000
set_option maxRecDepth 100000
namespace Go.Proofs.YtbkhopfpejhnlaaGreat
open Go.RowKit Go.Q Go.D
end Go.Proofs.YtbkhopfpejhnlaaGreat
set_option maxHeartbeats 1000000
set_option maxRecDepth 100000
namespace Go.Q
open Go.D
def letP (s : List UInt8) : Int × Bool := match (List.range 9).find? (fun k => decide (letS (k : Nat) = s)) with
 | some k => ((k : Int), true)
 | none => (0, false)
theorem letP_at {s : List UInt8} {k : Nat} (hk : k < 9) (h : letS (k : Nat) = s) (hn : ∀ j, j < k → letS (j : Nat) ≠ s) : letP s = ((k : Int), true) := by
 have : (List.range 9).find? (fun k => decide (letS (k : Nat) = s)) = some k := by
  rw [List.find?_range_eq_some]
  exact ⟨decide_eq_true h, List.mem_range.2 hk, fun j hj => by simpa using hn j hj⟩
 unfold letP
 rw [this]
theorem letP_no {s : List UInt8} (hn : ∀ j, j < 9 → letS (j : Nat) ≠ s) : letP s = (0, false) := by
 have : (List.range 9).find? (fun k => decide (letS (k : Nat) = s)) = none := by
  rw [List.find?_eq_none]
  intro x hx
  simpa using hn x (List.mem_range.1 hx)
 unfold letP
 rw [this]
end Go.Q
set_option maxHeartbeats 1000000
set_option maxRecDepth 100000
namespace Go.Q
open Go.D
def tk0 (k : Int) : TToken := ⟨k, 0, 0, 0⟩
def brS (s : List UInt8) : TToken := if s.length = 5 ∧ s[0]? = some 123 ∧ s[2]? = some 44 ∧ s[4]? = some 125 then ⟨7, 0, ((s[1]?.getD 0).toNat : Int) - 48, ((s[3]?.getD 0).toNat : Int) - 48⟩ else tk0 0
def rdT (rest : List UInt8 → TToken) (s : List UInt8) : TToken :=
 if s = [33] then tk0 1 else if s = [40, 41] then tk0 2 else if s = [46] then tk0 4 else if s = [124] then tk0 5 else if s = [42] then tk0 6
 else if (letP s).2 = true then ⟨3, (letP s).1, 0, 0⟩ else rest s
def exS (s : List UInt8) : TExpr := ⟨(splitL 32 s).map (rdT brS)⟩
def parseX (s : List UInt8) : TExpr × Bool := if isValidExpr (exS s) = true then (exS s, true) else (⟨[]⟩, false)
theorem parseX_spec {s : List UInt8} {k : Nat} (hk : (splitL 32 s).length ≤ k ∨ 25 ≤ k) : parseX s = if isValidExpr ⟨((splitL 32 s).take k).map (rdT brS)⟩ = true then (⟨((splitL 32 s).take k).map (rdT brS)⟩, true) else (⟨[]⟩, false) := by
 by_cases h : (splitL 32 s).length ≤ k
 · rw [List.take_of_length_le h]; rfl
 · have h1 : isValidExpr (exS s) = false := Bool.eq_false_iff.2 fun hh => by
    have := (valid_toks hh).1
    unfold exS at this; simp at this; omega
   have h2 : isValidExpr ⟨((splitL 32 s).take k).map (rdT brS)⟩ = false := Bool.eq_false_iff.2 fun hh => by
    have := (valid_toks hh).1
    simp at this; omega
   unfold parseX
   rw [h1, h2]; rfl
end Go.Q
set_option maxHeartbeats 1000000
set_option maxRecDepth 100000
namespace Go.Q
open Go.D
end Go.Q
namespace Go.Proofs.YtbkhopfpejhnlaaGreat
open Go.RowKit Go.Q Go.D
theorem specParseLetter (s : List UInt8) : FnT Tryz.prog 141 [.one (.v (.string (bs s)))] (.tup [.one (.v (.int .i64 (letP s).1)), .one (.v (.bool (letP s).2))]) := by
 refine FnT.walk Tryz.func141 U (by kernel_rfl) Tryz.ntmps141 U fun hlen w0 => ?_
 try simp [cPair, cToken, cExpr, cEdge, cGraph, cStep, cWalk, cChange, cBatch, cHistory, cPositions, cAutomaton, cProductStep, cPathAtom, cConjunction, cView, cDelta, cRegistered, cRegistry] at hlen
 refine AW.sr ?_
 refine AWl.ac U U U U U ?_
 refine AWl.ac U U U U U ?_
 refine AWl.nil (AW.seq ?_)
 refine AW.sr ?_
 refine AWl.ac U U U U U ?_
 refine AWl.nil (AW.block ?_)
 refine AW.loop1 (fun (k : Nat) => (k ≤ 9 ∧ ∀ j : Nat, j < k → letS (j : Nat) ≠ s) ∧ True) (fun (k : Nat) => ⟨_, [(4, (true, .a (.one (.t (.v (.int .i64 (k : Nat))))))), (0, _)], []⟩) (fun (k : Nat) => 9 - k) (0) ⟨⟨by omega, fun j hj => by omega⟩, trivial⟩ (Le.sub0 U ⟨U, U, trivial⟩ trivial) ?_
 rintro k ⟨hk, he⟩
 refine AW.seq ?_
 refine AW.sr ?_
 refine AWl.mv U U U U U ?_
 refine AWl.put (R_lt U (.no U) U (.tm U) (.const U)) U ?_
 refine AWl.nil ?_
 refine AW.cond (.tm U) (fun h6 => ?_) (fun h6 => ?_)
 · skip
   try simp at h6
   refine AW.skip ?_
   refine AW.seq ?_
   refine AW.block ?_
   refine AW.sr ?_
   refine AWl.mv U U U U U ?_
   refine AWl.put (R_callz (FnT.fr (specFormatLetter (k : Int) (by omega) (by omega))) U (.no U) U (.cons (.tm U) U .nil)) U ?_
   refine AWl.mv U U U U U ?_
   refine AWl.put (R_eqstr U (.no U) U (.tm U) (.tm U)) U ?_
   refine AWl.nil ?_
   refine AW.cond (.tm U) (fun h12 => ?_) (fun h12 => ?_)
   · skip
     try simp at h12
     refine AW.seq ?_
     refine AW.le (σ' := ⟨_, [(0, _), (4, _)], []⟩) (Le.sub0 U ⟨U, U, trivial⟩ trivial) ?_
     refine AW.region ?_
     refine AWl.mv U U U U U ?_
     refine AWl.av U U U U U ?_
     refine AWl.ac U U U U U ?_
     refine AWl.nil (AW.ret ?_)
     refine Res.many U (.tmp U (.tmp U .nil)) U ?_ (by simp)
     rw [letP_at (k := k) (by omega) (bs_inj h12) hk.2]; rfl
   · skip
     try simp at h12
     refine AW.skip ?_
     refine AW.le (σ' := ⟨_, [(0, _), (4, _)], []⟩) (Le.sub0 U ⟨U, U, trivial⟩ trivial) ?_
     refine AW.region ?_
     refine AWl.mv U U U U U ?_
     refine AWl.put (R_add U (.no U) U (.tm U) (.const U) (fun _ => by omega)) U ?_
     refine AWl.av U U U U U ?_
     refine AWl.nil ?_
     repeat (with_reducible refine BlockQ.nor ?_)
     refine Round1.next (k + 1) ⟨⟨by omega, fun j hj => (by by_cases e : j = k; (subst e; exact fun e2 => h12 (by rw [e2])); exact hk.2 j (by omega))⟩, trivial⟩ (by omega) (Le.sub0 rfl ⟨rfl, rfl, trivial⟩ trivial)
 · skip
   try simp at h6
   refine AW.exit ?_
   refine AW.sr ?_
   refine AWl.ac U U U U U ?_
   refine AWl.ac U U U U U ?_
   refine AWl.nil (AW.ret ?_)
   refine Res.many U (.tmp U (.tmp U .nil)) U ?_ (by simp)
   rw [letP_no fun j hj => hk.2 j (by omega)]; rfl
end Go.Proofs.YtbkhopfpejhnlaaGreat
