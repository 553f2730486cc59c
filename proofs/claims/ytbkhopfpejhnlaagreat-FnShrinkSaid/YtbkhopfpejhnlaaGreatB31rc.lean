import Derived.Test.YtbkhopfpejhnlaaGreatTr2rc
import Derived.Test.YtbkhopfpejhnlaaGreatSortrc
set_option linter.unusedVariables false
set_option linter.unusedSimpArgs false
set_option maxHeartbeats 1000000
set_option maxRecDepth 100000
namespace Go.Q
open Go.D
theorem good_cases {x : Tr} (hg : good x) : 0 ≤ x.tok.Low ∧ x.tok.Low ≤ 3 ∧ ((x.kids = [] ∧ (x.tok.Kind = 1 ∨ x.tok.Kind = 2 ∨ x.tok.Kind = 3)) ∨ (∃ y, x.kids = [y] ∧ (x.tok.Kind = 6 ∨ x.tok.Kind = 7)) ∨ (∃ y z, x.kids = [y, z] ∧ (x.tok.Kind = 4 ∨ x.tok.Kind = 5))) := by
 have ha := good_arity hg
 have hk := kids_le x
 have hl : x.kids.length = 0 ∨ x.kids.length = 1 ∨ x.kids.length = 2 := by omega
 have harr : arity x.tok ≥ 0 := by omega
 have key : 0 ≤ x.tok.Low ∧ x.tok.Low ≤ 3 ∧ (arity x.tok = 0 → x.tok.Kind = 1 ∨ x.tok.Kind = 2 ∨ x.tok.Kind = 3) ∧ (arity x.tok = 1 → x.tok.Kind = 6 ∨ x.tok.Kind = 7) ∧ (arity x.tok = 2 → x.tok.Kind = 4 ∨ x.tok.Kind = 5) := by
  revert harr
  unfold arity zerT inB
  intro harr
  repeat' split at harr
  all_goals first | omega | (simp_all <;> omega)
 refine ⟨key.1, key.2.1, ?_⟩
 rcases hl with h | h | h
 · exact .inl ⟨List.eq_nil_of_length_eq_zero h, key.2.2.1 (by omega)⟩
 · obtain ⟨y, hy, _⟩ := kids_one hg (by omega)
   exact .inr (.inl ⟨y, hy, key.2.2.2.1 (by omega)⟩)
 · obtain ⟨y, z, hy, _⟩ := kids_two hg (by omega)
   exact .inr (.inr ⟨y, z, hy, key.2.2.2.2 (by omega)⟩)
theorem kind_two' {x : Tr} (hg : good x) (h : x.tok.Kind = 4 ∨ x.tok.Kind = 5) : ∃ y z, x.kids = [y, z] ∧ toks x = toks y ++ toks z ++ [x.tok] ∧ good y ∧ good z := by
 rcases (good_cases hg).2.2 with ⟨_, h1⟩ | ⟨y, _, h1⟩ | ⟨y, z, h1, _⟩
 · omega
 · omega
 · exact kids_two hg (by rw [good_arity hg, h1]; rfl)
theorem kind_one' {x : Tr} (hg : good x) (h : x.tok.Kind = 6 ∨ x.tok.Kind = 7) : ∃ y, x.kids = [y] ∧ toks x = toks y ++ [x.tok] ∧ good y := by
 rcases (good_cases hg).2.2 with ⟨_, h1⟩ | ⟨y, h1, _⟩ | ⟨y, z, _, h1⟩
 · omega
 · exact kids_one hg (by rw [good_arity hg, h1]; rfl)
 · omega
theorem kind_no' {x : Tr} (hg : good x) (h : x.tok.Kind ≠ 4 ∧ x.tok.Kind ≠ 5 ∧ x.tok.Kind ≠ 6 ∧ x.tok.Kind ≠ 7) : x.kids = [] := by
 rcases (good_cases hg).2.2 with ⟨h1, _⟩ | ⟨y, _, h1⟩ | ⟨y, z, _, h1⟩
 · exact h1
 · omega
 · omega
end Go.Q
namespace Go.Proofs.YtbkhopfpejhnlaaGreat
open Go.RowKit Go.Q Go.D
end Go.Proofs.YtbkhopfpejhnlaaGreat
set_option maxHeartbeats 1000000
set_option maxRecDepth 100000
namespace Go.Q
open Go.D
def tok0 (k : Int) : TToken := ⟨k, 0, 0, 0⟩
def aloneB (l : List TToken) (k : Int) : Bool := decide ((l.length : Int) = 1) && decide ((l[(0 : Int).toNat]?.getD (tok0 0)).Kind = k)
def unionL (a b : List TToken) : List TToken := if aloneB a 1 || decide (a = b) then b else if aloneB b 1 then a else a ++ b ++ [tok0 5]
end Go.Q
namespace Go.Proofs.YtbkhopfpejhnlaaGreat
open Go.RowKit Go.Q Go.D
theorem specl8Is (e : TExpr) (k : Int) : FnT Tryz.prog 118 [.agg (cExpr e), .one (.v (.int .i64 k))] (.a (.one (.v (.bool (aloneB e.Tokens k))))) := by
 refine FnT.walk Tryz.func118 U (by kernel_rfl) Tryz.ntmps118 U fun hlen w0 => ?_
 try simp [cPair, cToken, cExpr, cEdge, cGraph] at hlen
 refine AW.sr ?_
 refine AWl.p (R_boxz U U U (.tm U) (ts := _) (by rfl)) U ?_
 refine AWl.ac ?_
 refine AWl.nil (AW.sr ?_)
 refine AWl.p (by exact R_fieldAddr U (.no U) U (.tm U) fl30_0) U ?_
 refine AWl.p (by exact R_load U (.no U) U (.tm U) ty28 U U) U ?_
 refine AWl.p (by exact R_lenm U (.no U) U (.tm U) (by exact .t) Tryz.underlying28) U ?_
 refine AWl.p (R_eq U (.no U) U (.tm U) (.const U)) U ?_
 refine AWl.mv ?_
 refine AWl.p (by exact R_fieldAddr U (by exact .yes1 U U U U) U (.tmp U (by exact fun _ => rfl)) fl30_0) U ?_
 refine AWl.p (by exact R_load U (by exact .yes1 U U U U) U (.tmp U (by exact id)) ty28 U U) U ?_
 refine AWl.p ((by exact R_indexAddr U (by exact .yes1 U U U U) U (.tmp U (by exact id)) (.const U) Tryz.underlying28 ty100 (fun hq => by (try simp at hq); exact ⟨by omega, map_get (f := cToken) (getD_at (d := tok0 0) (by omega))⟩))) U ?_
 refine AWl.p (by exact R_fieldAddr U (by exact .yes1 U U U U) U (.tmp U (by exact id)) fl100_0) U ?_
 refine AWl.p (by exact R_load U (by exact .yes1 U U U U) U (.tmp U (by exact id)) ty3 U U) U ?_
 refine AWl.p (R_move U (by exact .yes1 U U U U) U (.tmp U (by exact fun _ => rfl))) U ?_
 refine AWl.p (R_eq U (by exact .yes1 U U U U) U (.tmp U (by exact id)) (.tmp U (by exact id))) U ?_
 refine AWl.p (R_and U (.no U) U (.tm U) (.tmp U (by exact id))) U ?_
 refine AWl.av ?_
 refine AWl.nil (AW.ret ?_)
 refine Res.v U U ?_
 rfl
theorem specl8Leaf (k : Int) : FnT Tryz.prog 129 [.one (.v (.int .i64 k))] (.a (.agg (cExpr ⟨[tok0 k]⟩))) := by
 refine FnT.walk Tryz.func129 U (by kernel_rfl) Tryz.ntmps129 U fun hlen w0 => ?_
 try simp [cPair, cToken, cExpr, cEdge, cGraph] at hlen
 refine AW.sr ?_
 refine AWl.add (R_alloc 2 U U U in30 U U U) U ?_
 refine AWl.nil (AW.sr ?_)
 refine AWl.mv ?_
 refine AWl.p (R_build (ps := [(0, .tmp 3)]) U U U in100 U U st100 (.cons (.tm U) U U fp100_0 .nil) U) U ?_
 refine AWl.absadd (R_list (xs := [.tmp 4]) 5 U U U (.cons (.tm U) U U .nil) Tryz.underlying28 in100 U U U U) U ?_
 refine AWl.p (R_build (ps := [(0, .tmp 5)]) U U U in30 U U st30 (.cons (.tm U) U U fp30_0 .nil) U) U ?_
 refine AWl.chgb (R_store_pb U U U (.tm U) (.tm U) U ty30 U U U (by kernel_rfl) U) ?_
 refine AWl.nil (AW.ret ?_)
 refine Res.one U (.cell U U ty30 U U .nil) U ?_
 rfl
theorem specl8Copy (l : List TToken) (hz : l.length ≤ 4194304) : FnT Tryz.prog 120 [.one (.sl 4 (l.map cToken))] (.a (.agg (cExpr ⟨l⟩))) := by
 refine FnT.walk Tryz.func120 U (by kernel_rfl) Tryz.ntmps120 U fun hlen w0 => ?_
 try simp [cPair, cToken, cExpr, cEdge, cGraph] at hlen
 refine AW.sr ?_
 refine AWl.add (R_alloc 2 U U U in30 U U U) U ?_
 refine AWl.nil (AW.sr ?_)
 refine AWl.add (R_empty 3 U U U Tryz.underlying28 ty100 U) U ?_
 refine AWl.mv ?_
 refine AWl.chgput (R_append U U U (.tm U) U (.tm U) (by exact .t) (by exact isV_map (fun _ => rfl) _) Tryz.underlying28 in100 U (by (simp [chunk]; omega)) (by (unfold maxLen; simp [chunk]; omega))) U ?_
 refine AWl.le (σ' := ⟨_, [(0, _), (2, _), (5, _)], [(2, _), (3, _)]⟩) (Le.sub0 U ⟨U, U, U, Y⟩ ⟨U, U, Y⟩) ?_
 refine AWl.p (R_build (ps := [(0, .tmp 5)]) U U U in30 U U st30 (.cons (.tm U) U U fp30_0 .nil) U) U ?_
 refine AWl.chgb (R_store_pb U U U (.tm U) (.tm U) U ty30 U U U (by kernel_rfl) U) ?_
 refine AWl.nil (AW.ret ?_)
 refine Res.one U (.cell U U ty30 U U .nil) U ?_
 rfl
theorem specl8Join (a b : TExpr) (t : TToken) (hz : a.Tokens.length + b.Tokens.length ≤ 4194304) : FnT Tryz.prog 121 [.agg (cExpr a), .agg (cExpr b), .agg (cToken t)] (.a (.agg (cExpr ⟨a.Tokens ++ b.Tokens ++ [t]⟩))) := by
 refine FnT.walk Tryz.func121 U (by kernel_rfl) Tryz.ntmps121 U fun hlen w0 => ?_
 try simp [cPair, cToken, cExpr, cEdge, cGraph] at hlen
 refine AW.sr ?_
 refine AWl.p (R_boxz U U U (.tm U) (ts := _) (by rfl)) U ?_
 refine AWl.p (R_boxz U U U (.tm U) (ts := _) (by rfl)) U ?_
 refine AWl.p (R_boxz U U U (.tm U) (ts := _) (by rfl)) U ?_
 refine AWl.add (R_alloc 6 U U U in30 U U U) U ?_
 refine AWl.nil (AW.sr ?_)
 refine AWl.p (by exact R_fieldAddr U (.no U) U (.tm U) fl30_0) U ?_
 refine AWl.p (by exact R_load U (.no U) U (.tm U) ty28 U U) U ?_
 refine AWl.adds (R_call 1000 (specl8Copy _ (by omega)) U U U (.cons (.tm U) U .nil) U U) U ?_
 refine AWl.add (R_alloc 7 U U U in30 U U U) U ?_
 refine AWl.chgb (R_store_pb U U U (.tm U) (.tm U) U ty30 U U U (by kernel_rfl) U) ?_
 refine AWl.nil (AW.sr ?_)
 refine AWl.p (by exact R_fieldAddr_pp U (.no U) U (.tm U) fl30_0) U ?_
 refine AWl.p (by exact R_load_pp U (.no U) U (.tm U) U ty28 U U) U ?_
 refine AWl.p (by exact R_fieldAddr U (.no U) U (.tm U) fl30_0) U ?_
 refine AWl.p (by exact R_load U (.no U) U (.tm U) ty28 U U) U ?_
 refine AWl.chgput (R_append U U U (.tm U) U (.tm U) (by exact .t) (by exact isV_map (fun _ => rfl) _) Tryz.underlying28 in100 U (by (simp [chunk]; omega)) (by (unfold maxLen; simp [chunk]; omega))) U ?_
 refine AWl.le (σ' := ⟨_, [(0, _), (1, _), (2, _), (3, _), (4, _), (5, _), (6, _), (7, _), (15, _)], [(6, _), (1000, _), (7, _)]⟩) (Le.sub0 U ⟨U, U, U, U, U, U, U, U, U, Y⟩ ⟨U, U, U, Y⟩) ?_
 refine AWl.p (by exact R_fieldAddr_pp U (.no U) U (.tm U) fl30_0) U ?_
 refine AWl.chgb (R_store_pb U U U (.tm U) (.tm U) U ty28 U U U (by kernel_rfl) U) ?_
 refine AWl.nil (AW.sr ?_)
 refine AWl.p (by exact R_fieldAddr_pp U (.no U) U (.tm U) fl30_0) U ?_
 refine AWl.p (by exact R_load_pp U (.no U) U (.tm U) U ty28 U U) U ?_
 refine AWl.p (by exact R_load U (.no U) U (.tm U) ty100 U U) U ?_
 refine AWl.absadd (R_list (xs := [.tmp 19]) 20 U U U (.cons (.tm U) U U .nil) Tryz.underlying28 in100 U U U U) U ?_
 refine AWl.abschgput (R_append_own U U U (.tm U) U (.tm U) U U Tryz.underlying28 in100 U (by (simp [chunk]; omega)) (by (unfold maxLen; simp [chunk]; omega))) U ?_
 refine AWl.le (σ' := ⟨_, [(0, _), (1, _), (2, _), (3, _), (4, _), (5, _), (6, _), (7, _), (21, _)], [(6, _), (1000, _), (7, _)]⟩) (Le.sub0 U ⟨U, U, U, U, U, U, U, U, U, Y⟩ ⟨U, U, U, Y⟩) ?_
 refine AWl.p (by exact R_fieldAddr_pp U (.no U) U (.tm U) fl30_0) U ?_
 refine AWl.chgb (R_store_pb U U U (.tm U) (.tm U) U ty28 U U U (by kernel_rfl) U) ?_
 refine AWl.nil (AW.sr ?_)
 refine AWl.p (by exact R_load_pp U (.no U) U (.tm U) U ty30 U U) U ?_
 refine AWl.chgb (R_store_pb U U U (.tm U) (.tm U) U ty30 U U U (by kernel_rfl) U) ?_
 refine AWl.nil (AW.ret ?_)
 refine Res.one U (.cell U U ty30 U U .nil) U ?_
 simp [cExpr, unflT, cToken, chunk]; rfl
theorem specUnionExpr (a b : TExpr) (hz : a.Tokens.length + b.Tokens.length ≤ 4194304) : FnT Tryz.prog 97 [.agg (cExpr a), .agg (cExpr b)] (.a (.agg (cExpr ⟨unionL a.Tokens b.Tokens⟩))) := by
 refine FnT.walk Tryz.func97 U (by kernel_rfl) Tryz.ntmps97 U fun hlen w0 => ?_
 try simp [cPair, cToken, cExpr, cEdge, cGraph] at hlen
 refine AW.sr ?_
 refine AWl.p (R_boxz U U U (.tm U) (ts := _) (by rfl)) U ?_
 refine AWl.p (R_boxz U U U (.tm U) (ts := _) (by rfl)) U ?_
 refine AWl.add (R_alloc 4 U U U in30 U U U) U ?_
 refine AWl.nil (AW.seq ?_)
 refine AW.block ?_
 refine AW.sr ?_
 refine AWl.p (by exact R_load U (.no U) U (.tm U) ty30 U U) U ?_
 refine AWl.p (R_callz (FnT.fr (specl8Is _ _)) U (.no U) U (.cons (.tm U) U (.cons (.const U) U .nil))) U ?_
 refine AWl.mv ?_
 refine AWl.p (by exact R_load U (by exact .not1 U U U U) U (.tmp U (by exact fun _ => rfl)) ty30 U U) U ?_
 refine AWl.p (by exact R_load U (by exact .not1 U U U U) U (.tmp U (by exact fun _ => rfl)) ty30 U U) U ?_
 refine AWl.p (R_callz (FnT.fr (specEqualExprs _ _)) U (by exact .not1 U U U U) U (.cons (.tmp U (by exact id)) U (.cons (.tmp U (by exact id)) U .nil))) U ?_
 refine AWl.p (R_or U (.no U) U (.tm U) (.tmp U (by exact id))) U ?_
 refine AWl.av ?_
 refine AWl.nil ?_
 refine AW.cond (.tm U) (fun h5 => ?_) (fun h5 => ?_)
 · skip
   skip
   refine AW.seq ?_
   refine AW.le (σ' := ⟨_, [(0, _), (1, _), (2, _), (3, _), (4, _)], [(4, _)]⟩) (Le.sub0 U ⟨U, U, U, U, U, Y⟩ ⟨U, Y⟩) ?_
   refine AW.region ?_
   refine AWl.p (by exact R_fieldAddr U (.no U) U (.tm U) fl30_0) U ?_
   refine AWl.p (by exact R_load U (.no U) U (.tm U) ty28 U U) U ?_
   refine AWl.adds (R_call 1500 (specl8Copy _ (by omega)) U U U (.cons (.tm U) U .nil) U U) U ?_
   refine AWl.chgb (R_store_pb U U U (.tm U) (.tm U) U ty30 U U U (by kernel_rfl) U) ?_
   refine AWl.nil (AW.ret ?_)
   refine Res.one U (.cell U U ty30 U U .nil) U ?_
   unfold unionL; rw [if_pos (by rw [← h5]; congr 1; exact decide_eq_decide.2 (TExpr.ext_iff'.symm))]; rfl
 · skip
   skip
   refine AW.seq ?_
   refine AW.le (σ' := ⟨_, [(0, _), (1, _), (2, _), (3, _), (4, _)], [(4, _)]⟩) (Le.sub0 U ⟨U, U, U, U, U, Y⟩ ⟨U, Y⟩) ?_
   refine AW.region ?_
   refine AWl.p (by exact R_load U (.no U) U (.tm U) ty30 U U) U ?_
   refine AWl.p (R_callz (FnT.fr (specl8Is _ _)) U (.no U) U (.cons (.tm U) U (.cons (.const U) U .nil))) U ?_
   refine AWl.av ?_
   refine AWl.nil ?_
   refine AW.cond (.tm U) (fun h16 => ?_) (fun h16 => ?_)
   · skip
     try simp at h16
     refine AW.sr ?_
     refine AWl.p (by exact R_fieldAddr U (.no U) U (.tm U) fl30_0) U ?_
     refine AWl.p (by exact R_load U (.no U) U (.tm U) ty28 U U) U ?_
     refine AWl.adds (R_call 2100 (specl8Copy _ (by omega)) U U U (.cons (.tm U) U .nil) U U) U ?_
     refine AWl.chgb (R_store_pb U U U (.tm U) (.tm U) U ty30 U U U (by kernel_rfl) U) ?_
     refine AWl.nil (AW.ret ?_)
     refine Res.one U (.cell U U ty30 U U .nil) U ?_
     unfold unionL; rw [if_neg (by rw [show (aloneB a.Tokens 1 || decide (a.Tokens = b.Tokens)) = false from by rw [← h5]; congr 1; exact decide_eq_decide.2 (TExpr.ext_iff'.symm)]; simp), if_pos h16]; rfl
   · skip
     try simp at h16
     refine AW.skip ?_
     refine AW.sr ?_
     refine AWl.p (by exact R_load U (.no U) U (.tm U) ty30 U U) U ?_
     refine AWl.p (by exact R_load U (.no U) U (.tm U) ty30 U U) U ?_
     refine AWl.p (R_build (ps := [(0, .const (.int .i64 (5)))]) U U U in100 U U st100 (.cons (.const U) U U fp100_0 .nil) U) U ?_
     refine AWl.adds (R_call 2500 (specl8Join a b (tok0 5) (by omega)) U U U (.cons (.tm U) U (.cons (.tm U) U (.cons (.tm U) U .nil))) U U) U ?_
     refine AWl.chgb (R_store_pb U U U (.tm U) (.tm U) U ty30 U U U (by kernel_rfl) U) ?_
     refine AWl.nil (AW.ret ?_)
     refine Res.one U (.cell U U ty30 U U .nil) U ?_
     unfold unionL; rw [if_neg (by rw [show (aloneB a.Tokens 1 || decide (a.Tokens = b.Tokens)) = false from by rw [← h5]; congr 1; exact decide_eq_decide.2 (TExpr.ext_iff'.symm)]; simp), if_neg (by simp [h16])]; rfl
end Go.Proofs.YtbkhopfpejhnlaaGreat
