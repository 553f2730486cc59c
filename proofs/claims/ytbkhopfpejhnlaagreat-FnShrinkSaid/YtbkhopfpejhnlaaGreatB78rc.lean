import Derived.Test.YtbkhopfpejhnlaaGreatAbsJrc
import Derived.Test.YtbkhopfpejhnlaaGreatTr2rc
import Derived.Test.YtbkhopfpejhnlaaGreatStdrc
import Derived.Test.YtbkhopfpejhnlaaGreatAbsZrc
import Derived.Test.YtbkhopfpejhnlaaGreatB03rc
import Derived.Test.YtbkhopfpejhnlaaGreatB82rc
import Derived.Lib.IndexMore
import Derived.Lib.SlTrimSet
set_option linter.unusedVariables false
set_option linter.unusedSimpArgs false
set_option maxHeartbeats 1000000
set_option maxRecDepth 100000
namespace Go.Q
open Go.D
end Go.Q
namespace Go.Proofs.YtbkhopfpejhnlaaGreat
open Go.RowKit Go.Q Go.D
end Go.Proofs.YtbkhopfpejhnlaaGreat
set_option maxHeartbeats 1000000
set_option maxRecDepth 100000
namespace Go.Q
open Go.D
def tokS (t : TToken) : List UInt8 :=
 if t.Kind = 1 then [33] else if t.Kind = 2 then [40, 41] else if t.Kind = 3 then letS t.Letter else if t.Kind = 4 then [46] else if t.Kind = 5 then [124] else if t.Kind = 6 then [42]
 else [123] ++ numS t.Low ++ [44] ++ numS t.High ++ [125]
theorem depth_ar : ∀ {l : List TToken} {d : Int}, depthGo d l = true → ∀ t ∈ l, 0 ≤ arity t
 | [], _, _ => fun t ht => by cases ht
 | x :: r, d, h => by
  rw [depthGo] at h
  split at h
  · cases h
  · rename_i hc
    intro t ht
    rcases List.mem_cons.1 ht with rfl | ht
    · omega
    · exact depth_ar h t ht
theorem valid_toks {e : TExpr} (h : isValidExpr e = true) : e.Tokens.length ≤ 24 ∧ ∀ t ∈ e.Tokens, 0 ≤ arity t := by
 unfold isValidExpr isExpr at h
 simp only [Bool.and_eq_true, decide_eq_true_eq] at h
 exact ⟨h.1, depth_ar h.2⟩
theorem tok_rep {t : TToken} (h : 0 ≤ arity t) (h1 : t.Kind ≠ 1) (h2 : t.Kind ≠ 2) (h3 : t.Kind ≠ 3) (h4 : t.Kind ≠ 4) (h5 : t.Kind ≠ 5) (h6 : t.Kind ≠ 6) : (0 ≤ t.Low ∧ t.Low ≤ 3) ∧ 0 ≤ t.High ∧ t.High ≤ 3 := by
 unfold arity at h
 rw [if_neg (by omega), if_neg h3, if_neg (by omega), if_neg h6] at h
 split at h
 · split at h
   · rename_i hc
     simp only [inB, Bool.and_eq_true, decide_eq_true_eq] at hc
     omega
   · omega
 · omega
theorem tok_let {t : TToken} (h : 0 ≤ arity t) (h3 : t.Kind = 3) : 0 ≤ t.Letter ∧ t.Letter ≤ 8 := by
 unfold arity at h
 rw [if_neg (by omega), if_pos h3] at h
 split at h
 · rename_i hc
   simp only [inB, Bool.and_eq_true, decide_eq_true_eq] at hc
   omega
 · omega
end Go.Q
set_option maxHeartbeats 1000000
set_option maxRecDepth 100000
namespace Go.Q
open Go.D
end Go.Q
set_option maxHeartbeats 1000000
set_option maxRecDepth 100000
namespace Go.Proofs.YtbkhopfpejhnlaaGreat
open Go.RowKit Go.Q Go.D
end Go.Proofs.YtbkhopfpejhnlaaGreat
set_option maxHeartbeats 1000000
set_option maxRecDepth 100000
namespace Go.Q
open Go.D
def letP (s : List UInt8) : Int × Bool := match (List.range 9).find? (fun k => decide (letS (k : Nat) = s)) with
 | some k => ((k : Int), true)
 | none => (0, false)
theorem letP_at {s : List UInt8} {k : Nat} (hk : k < 9) (h : letS (k : Nat) = s) (hn : ∀ j, j < k → letS (j : Nat) ≠ s) : letP s = ((k : Int), true) := by
 have : (List.range 9).find? (fun k => decide (letS (k : Nat) = s)) = some k := by
  rw [List.find?_range_eq_some]
  exact ⟨decide_eq_true h, List.mem_range.2 hk, fun j hj => by simpa using hn j hj⟩
 unfold letP
 rw [this]
theorem letP_no {s : List UInt8} (hn : ∀ j, j < 9 → letS (j : Nat) ≠ s) : letP s = (0, false) := by
 have : (List.range 9).find? (fun k => decide (letS (k : Nat) = s)) = none := by
  rw [List.find?_eq_none]
  intro x hx
  simpa using hn x (List.mem_range.1 hx)
 unfold letP
 rw [this]
end Go.Q
set_option maxHeartbeats 1000000
set_option maxRecDepth 100000
namespace Go.Q
open Go.D
def tk0 (k : Int) : TToken := ⟨k, 0, 0, 0⟩
def brS (s : List UInt8) : TToken := if s.length = 5 ∧ s[0]? = some 123 ∧ s[2]? = some 44 ∧ s[4]? = some 125 then ⟨7, 0, ((s[1]?.getD 0).toNat : Int) - 48, ((s[3]?.getD 0).toNat : Int) - 48⟩ else tk0 0
def rdT (rest : List UInt8 → TToken) (s : List UInt8) : TToken :=
 if s = [33] then tk0 1 else if s = [40, 41] then tk0 2 else if s = [46] then tk0 4 else if s = [124] then tk0 5 else if s = [42] then tk0 6
 else if (letP s).2 = true then ⟨3, (letP s).1, 0, 0⟩ else rest s
def exS (s : List UInt8) : TExpr := ⟨(splitL 32 s).map (rdT brS)⟩
def parseX (s : List UInt8) : TExpr × Bool := if isValidExpr (exS s) = true then (exS s, true) else (⟨[]⟩, false)
theorem parseX_spec {s : List UInt8} {k : Nat} (hk : (splitL 32 s).length ≤ k ∨ 25 ≤ k) : parseX s = if isValidExpr ⟨((splitL 32 s).take k).map (rdT brS)⟩ = true then (⟨((splitL 32 s).take k).map (rdT brS)⟩, true) else (⟨[]⟩, false) := by
 by_cases h : (splitL 32 s).length ≤ k
 · rw [List.take_of_length_le h]; rfl
 · have h1 : isValidExpr (exS s) = false := Bool.eq_false_iff.2 fun hh => by
    have := (valid_toks hh).1
    unfold exS at this; simp at this; omega
   have h2 : isValidExpr ⟨((splitL 32 s).take k).map (rdT brS)⟩ = false := Bool.eq_false_iff.2 fun hh => by
    have := (valid_toks hh).1
    simp at this; omega
   unfold parseX
   rw [h1, h2]; rfl
end Go.Q
set_option maxHeartbeats 1000000
set_option maxRecDepth 100000
namespace Go.Q
open Go.D
end Go.Q
namespace Go.Proofs.YtbkhopfpejhnlaaGreat
open Go.RowKit Go.Q Go.D
theorem specParseLetter (s : List UInt8) : FnT Tryz.prog 141 [.one (.v (.string (bs s)))] (.tup [.one (.v (.int .i64 (letP s).1)), .one (.v (.bool (letP s).2))]) := by
 refine FnT.walk Tryz.func141 U (by kernel_rfl) Tryz.ntmps141 U fun hlen w0 => ?_
 try simp [cPair, cToken, cExpr, cEdge, cGraph] at hlen
 refine AW.sr ?_
 refine AWl.ac ?_
 refine AWl.ac ?_
 refine AWl.nil (AW.seq ?_)
 refine AW.sr ?_
 refine AWl.ac ?_
 refine AWl.nil (AW.block ?_)
 refine AW.loop1 (fun (k : Nat) => (k ≤ 9 ∧ ∀ j : Nat, j < k → letS (j : Nat) ≠ s) ∧ True) (fun (k : Nat) => ⟨_, [(4, (true, .a (.one (.t (.v (.int .i64 (k : Nat))))))), (0, _)], []⟩) (fun (k : Nat) => 9 - k) (0) ⟨⟨by omega, fun j hj => by omega⟩, Y⟩ (Le.sub0 U ⟨U, U, Y⟩ trivial) ?_
 rintro k ⟨hk, he⟩
 refine AW.seq ?_
 refine AW.sr ?_
 refine AWl.mv ?_
 refine AWl.p (R_lt U (.no U) U (.tm U) (.const U)) U ?_
 refine AWl.nil ?_
 refine AW.cond (.tm U) (fun h6 => ?_) (fun h6 => ?_)
 · skip
   try simp at h6
   refine AW.skip ?_
   refine AW.seq ?_
   refine AW.block ?_
   refine AW.sr ?_
   refine AWl.mv ?_
   refine AWl.p (R_callz (FnT.fr (specFormatLetter (k : Int) (by omega) (by omega))) U (.no U) U (.cons (.tm U) U .nil)) U ?_
   refine AWl.mv ?_
   refine AWl.p (R_eqstr U (.no U) U (.tm U) (.tm U)) U ?_
   refine AWl.nil ?_
   refine AW.cond (.tm U) (fun h12 => ?_) (fun h12 => ?_)
   · skip
     try simp at h12
     refine AW.seq ?_
     refine AW.le (σ' := ⟨_, [(0, _), (4, _)], []⟩) (Le.sub0 U ⟨U, U, Y⟩ trivial) ?_
     refine AW.region ?_
     refine AWl.mv ?_
     refine AWl.av ?_
     refine AWl.ac ?_
     refine AWl.nil (AW.ret ?_)
     refine Res.many U (.tmp U (.tmp U .nil)) U ?_ (by simp)
     rw [letP_at (k := k) (by omega) (bs_inj h12) hk.2]; rfl
   · skip
     try simp at h12
     refine AW.skip ?_
     refine AW.le (σ' := ⟨_, [(0, _), (4, _)], []⟩) (Le.sub0 U ⟨U, U, Y⟩ trivial) ?_
     refine AW.region ?_
     refine AWl.mv ?_
     refine AWl.p (R_add U (.no U) U (.tm U) (.const U) (fun _ => by omega)) U ?_
     refine AWl.av ?_
     refine AWl.nil ?_
     repeat (with_reducible refine BlockQ.nor ?_)
     refine Round1.next (k + 1) ⟨⟨by omega, fun j hj => (by by_cases e : j = k; (subst e; exact fun e2 => h12 (by rw [e2])); exact hk.2 j (by omega))⟩, Y⟩ (by omega) (Le.sub0 rfl ⟨rfl, rfl, Y⟩ trivial)
 · skip
   try simp at h6
   refine AW.exit ?_
   refine AW.sr ?_
   refine AWl.ac ?_
   refine AWl.ac ?_
   refine AWl.nil (AW.ret ?_)
   refine Res.many U (.tmp U (.tmp U .nil)) U ?_ (by simp)
   rw [letP_no fun j hj => hk.2 j (by omega)]; rfl
end Go.Proofs.YtbkhopfpejhnlaaGreat
set_option maxHeartbeats 1000000
set_option maxRecDepth 100000
namespace Go.Q
open Go.D
end Go.Q
namespace Go.Proofs.YtbkhopfpejhnlaaGreat
open Go.RowKit Go.Q Go.D
theorem specl8Token (t : TToken) (h : 0 ≤ arity t) : FnT Tryz.prog 140 [.agg (cToken t)] (.a (.one (.v (.string (bs (tokS t)))))) := by
 refine FnT.walk Tryz.func140 U (by kernel_rfl) Tryz.ntmps140 U fun hlen w0 => ?_
 try simp [cPair, cToken, cExpr, cEdge, cGraph] at hlen
 skip
 have e1 : (⟨#[123]⟩ : ByteArray).size = 1 := rfl
 have e2 : (⟨#[44]⟩ : ByteArray).size = 1 := rfl
 have e3 : (⟨#[125]⟩ : ByteArray).size = 1 := rfl
 refine AW.sr ?_
 refine AWl.p (R_boxz U U U (.tm U) (ts := _) (by rfl)) U ?_
 refine AWl.ac ?_
 refine AWl.nil (AW.seq ?_)
 refine AW.sr ?_
 refine AWl.p (by exact R_fieldAddr U (.no U) U (.tm U) fl100_0) U ?_
 refine AWl.p (by exact R_load U (.no U) U (.tm U) ty3 U U) U ?_
 refine AWl.nil (AW.block ?_)
 refine AW.sr ?_
 refine AWl.p (R_eq U (.no U) U (.tm U) (.const U)) U ?_
 refine AWl.av ?_
 refine AWl.nil ?_
 refine AW.cond (.tm U) (fun h5 => ?_) (fun h5 => ?_)
 · skip
   try simp at h5
   refine AW.sr ?_
   refine AWl.ac ?_
   refine AWl.nil (AW.ret ?_)
   refine Res.v U U ?_
   (unfold tokS; rw [if_pos h5]; rfl)
 · skip
   try simp at h5
   refine AW.sr ?_
   refine AWl.p (R_eq U (.no U) U (.tm U) (.const U)) U ?_
   refine AWl.av ?_
   refine AWl.nil ?_
   refine AW.cond (.tm U) (fun h7 => ?_) (fun h7 => ?_)
   · skip
     try simp at h7
     refine AW.sr ?_
     refine AWl.ac ?_
     refine AWl.nil (AW.ret ?_)
     refine Res.v U U ?_
     (unfold tokS; rw [if_neg h5, if_pos h7]; rfl)
   · skip
     try simp at h7
     refine AW.sr ?_
     refine AWl.p (R_eq U (.no U) U (.tm U) (.const U)) U ?_
     refine AWl.av ?_
     refine AWl.nil ?_
     refine AW.cond (.tm U) (fun h9 => ?_) (fun h9 => ?_)
     · skip
       try simp at h9
       refine AW.seq ?_
       refine AW.le (σ' := ⟨_, [(0, _), (1, _), (2, _), (4, _)], []⟩) (Le.sub0 U ⟨U, U, U, U, Y⟩ trivial) ?_
       refine AW.region ?_
       refine AWl.p (by exact R_fieldAddr U (.no U) U (.tm U) fl100_1) U ?_
       refine AWl.p (by exact R_load U (.no U) U (.tm U) ty3 U U) U ?_
       refine AWl.p (R_callz (FnT.fr (specFormatLetter t.Letter (tok_let h h9).1 (tok_let h h9).2)) U (.no U) U (.cons (.tm U) U .nil)) U ?_
       refine AWl.av ?_
       refine AWl.nil (AW.ret ?_)
       refine Res.v U U ?_
       (unfold tokS; rw [if_neg h5, if_neg h7, if_pos h9])
     · skip
       try simp at h9
       refine AW.seq ?_
       refine AW.le (σ' := ⟨_, [(0, _), (1, _), (2, _), (4, _)], []⟩) (Le.sub0 U ⟨U, U, U, U, Y⟩ trivial) ?_
       refine AW.region ?_
       refine AWl.p (R_eq U (.no U) U (.tm U) (.const U)) U ?_
       refine AWl.av ?_
       refine AWl.nil ?_
       refine AW.cond (.tm U) (fun h14 => ?_) (fun h14 => ?_)
       · skip
         try simp at h14
         refine AW.sr ?_
         refine AWl.ac ?_
         refine AWl.nil (AW.ret ?_)
         refine Res.v U U ?_
         (unfold tokS; rw [if_neg h5, if_neg h7, if_neg h9, if_pos h14]; rfl)
       · skip
         try simp at h14
         refine AW.sr ?_
         refine AWl.p (R_eq U (.no U) U (.tm U) (.const U)) U ?_
         refine AWl.av ?_
         refine AWl.nil ?_
         refine AW.cond (.tm U) (fun h16 => ?_) (fun h16 => ?_)
         · skip
           try simp at h16
           refine AW.sr ?_
           refine AWl.ac ?_
           refine AWl.nil (AW.ret ?_)
           refine Res.v U U ?_
           (unfold tokS; rw [if_neg h5, if_neg h7, if_neg h9, if_neg h14, if_pos h16]; rfl)
         · skip
           try simp at h16
           refine AW.sr ?_
           refine AWl.p (R_eq U (.no U) U (.tm U) (.const U)) U ?_
           refine AWl.av ?_
           refine AWl.nil ?_
           refine AW.cond (.tm U) (fun h18 => ?_) (fun h18 => ?_)
           · skip
             try simp at h18
             refine AW.seq ?_
             refine AW.le (σ' := ⟨_, [(0, _), (1, _), (2, _), (4, _)], []⟩) (Le.sub0 U ⟨U, U, U, U, Y⟩ trivial) ?_
             refine AW.region ?_
             refine AWl.ac ?_
             refine AWl.nil (AW.ret ?_)
             refine Res.v U U ?_
             (unfold tokS; rw [if_neg h5, if_neg h7, if_neg h9, if_neg h14, if_neg h16, if_pos h18]; rfl)
           · skip
             try simp at h18
             have hr := tok_rep h h5 h7 h9 h14 h16 h18
             have s1 := numS_len (n := t.Low) (by omega)
             have s2 := numS_len (n := t.High) (by omega)
             refine AW.skip ?_
             refine AW.seq ?_
             refine AW.le (σ' := ⟨_, [(0, _), (1, _), (2, _), (4, _)], []⟩) (Le.sub0 U ⟨U, U, U, U, Y⟩ trivial) ?_
             refine AW.drawn 11 (nthB [[], [0], [0, 1], [0, 1, 2], [0, 1, 2, 3], [], [5], [0, 1, 2, 5, 6], [0, 1, 2, 3, 4, 5, 6, 7], [0, 1, 2, 3, 4, 5, 6, 7, 8], [0, 1, 2, 3, 4, 5, 6, 7, 8, 9]]) (by kernel_rfl) (by kernel_rfl) (by kernel_rfl) ?_
             refine DrawC.step U U U (Loc.of U fun σ' hs => (by exact R_fieldAddr U (.no U) (hd_sup hs U) (.tm (hs.slots _ _ U)) fl100_2)) ?_
             refine DrawC.step U U U (Loc.of U fun σ' hs => (by exact R_load U (.no U) (hd_sup hs U) (.tm (hs.slots _ _ U)) ty3 U U)) ?_
             refine DrawC.step U U U (Loc.of U fun σ' hs => R_callz (FnT.fr (specFormatInt t.Low (by omega) (by omega))) U (.no U) (hd_sup hs U) (.cons (.tm (hs.slots _ _ U)) (readA_sup hs U) .nil)) ?_
             refine DrawC.step U U U (Loc.of U fun σ' hs => R_cat U (.no U) (hd_sup hs U) (.const U) (.tm (hs.slots _ _ U)) (fun _ => by simp only [ByteArray.size_append, bs_size]; omega)) ?_
             refine DrawC.step U U U (Loc.of U fun σ' hs => R_cat U (.no U) (hd_sup hs U) (.tm (hs.slots _ _ U)) (.const U) (fun _ => by simp only [ByteArray.size_append, bs_size]; omega)) ?_
             refine DrawC.step U U U (Loc.of U fun σ' hs => (by exact R_fieldAddr U (.no U) (hd_sup hs U) (.tm (hs.slots _ _ U)) fl100_3)) ?_
             refine DrawC.step U U U (Loc.of U fun σ' hs => (by exact R_load U (.no U) (hd_sup hs U) (.tm (hs.slots _ _ U)) ty3 U U)) ?_
             refine DrawC.step U U U (Loc.of U fun σ' hs => R_callz (FnT.fr (specFormatInt t.High (by omega) (by omega))) U (.no U) (hd_sup hs U) (.cons (.tm (hs.slots _ _ U)) (readA_sup hs U) .nil)) ?_
             refine DrawC.step U U U (Loc.of U fun σ' hs => R_cat U (.no U) (hd_sup hs U) (.tm (hs.slots _ _ U)) (.tm (hs.slots _ _ U)) (fun _ => by simp only [ByteArray.size_append, bs_size]; omega)) ?_
             refine DrawC.step U U U (Loc.of U fun σ' hs => R_cat U (.no U) (hd_sup hs U) (.tm (hs.slots _ _ U)) (.const U) (fun _ => by simp only [ByteArray.size_append, bs_size]; omega)) ?_
             refine DrawC.step U U U (Loc.of U fun σ' hs => R_assign U (.no U) (hd_sup hs U) (.tm (hs.slots _ _ U))) ?_
             refine DrawC.fin U U ?_
             refine AWl.nil (AW.ret ?_)
             refine Res.v U U ?_
             (unfold tokS; rw [if_neg h5, if_neg h7, if_neg h9, if_neg h14, if_neg h16, if_neg h18, show (⟨#[123]⟩ : ByteArray) = bs [123] from rfl, show (⟨#[44]⟩ : ByteArray) = bs [44] from rfl, show (⟨#[125]⟩ : ByteArray) = bs [125] from rfl]; simp only [bs_append])
end Go.Proofs.YtbkhopfpejhnlaaGreat
