import Derived.Test.YtoealglkenhphaaGreatHAxb
set_option linter.unusedVariables false
set_option linter.unusedSimpArgs false
namespace Go.Proofs.YtoealglkenhphaaGreat
open Go.RowKit Go.Q Go.D
set_option maxRecDepth 100000 in
theorem HtoAutomaton (x : TAutomaton) (hz : okAutomaton x) : FnT Tryz.prog 52 [.agg (cAutomaton x)] (.a (.agg (cAutomaton x))) := by
 refine FnT.walk Tryz.func52 rfl (by kernel_rfl) Tryz.ntmps52 rfl fun hlen w0 => ?_
 try simp [cEdge, cGraph, cStep, cChange, cBatch, cAutomaton, cProductStep, cView] at hlen
 refine AW.sr ?_
 refine AWl.put (R_boxz rfl rfl rfl (.tm rfl) (ts := _) (by rfl)) rfl ?_
 refine AWl.add (R_alloc 2 rfl rfl rfl in36 rfl rfl rfl) rfl ?_
 refine AWl.nil ?_
 refine AW.sr ?_
 refine AWl.add (R_alloc 3 rfl rfl rfl in36 rfl rfl rfl) rfl ?_
 refine AWl.nil ?_
 refine AW.sr ?_
 refine AWl.put (by exact R_fieldAddr rfl (.no rfl) rfl (.tm rfl) fl29_0) rfl ?_
 refine AWl.put (by exact R_load rfl (.no rfl) rfl (.tm rfl) ty3 rfl rfl) rfl ?_
 refine AWl.put (by exact R_fieldAddr_pp rfl (.no rfl) rfl (.tm rfl) fl36_0) rfl ?_
 refine AWl.chgb (R_store_pb rfl rfl rfl (.tm rfl) (.tm rfl) rfl ty3 rfl rfl rfl (by kernel_rfl) rfl) ?_
 refine AWl.nil ?_
 refine AW.sr ?_
 refine AWl.put (by exact R_fieldAddr rfl (.no rfl) rfl (.tm rfl) fl29_1) rfl ?_
 refine AWl.put (by exact R_load rfl (.no rfl) rfl (.tm rfl) ty26 rfl rfl) rfl ?_
 refine AWl.adds (R_call 900 (HtoBoolS _ (by exact hz.1)) rfl rfl rfl (.cons (.tm rfl) rfl .nil) rfl rfl) rfl ?_
 refine AWl.put (by exact R_fieldAddr_pp rfl (.no rfl) rfl (.tm rfl) fl36_1) rfl ?_
 refine AWl.chgb (R_store_pb rfl rfl rfl (.tm rfl) (.tm rfl) rfl ty26 rfl rfl rfl (by kernel_rfl) rfl) ?_
 refine AWl.nil ?_
 refine AW.sr ?_
 refine AWl.put (by exact R_fieldAddr rfl (.no rfl) rfl (.tm rfl) fl29_2) rfl ?_
 refine AWl.put (by exact R_load rfl (.no rfl) rfl (.tm rfl) ty27 rfl rfl) rfl ?_
 refine AWl.adds (R_call 1300 (HtoIntSS _ (by exact hz.2.1)) rfl rfl rfl (.cons (.tm rfl) rfl .nil) rfl rfl) rfl ?_
 refine AWl.put (by exact R_fieldAddr_pp rfl (.no rfl) rfl (.tm rfl) fl36_2) rfl ?_
 refine AWl.chgb (R_store_pb rfl rfl rfl (.tm rfl) (.tm rfl) rfl ty27 rfl rfl rfl (by kernel_rfl) rfl) ?_
 refine AWl.nil ?_
 refine AW.sr ?_
 refine AWl.put (by exact R_load_pp rfl (.no rfl) rfl (.tm rfl) rfl ty36 rfl rfl) rfl ?_
 refine AWl.chgb (R_store_pb rfl rfl rfl (.tm rfl) (.tm rfl) rfl ty36 rfl rfl rfl (by kernel_rfl) rfl) ?_
 refine AWl.nil ?_
 refine AW.ret ?_
 refine Res.one rfl (.cell rfl rfl ty36 rfl rfl .nil) rfl ?_
 rfl
set_option maxRecDepth 100000 in
theorem HeqAutomaton (x : TAutomaton) : FnT Tryz.prog 55 [.agg (cAutomaton x), .agg (cAutomaton x)] (.a (.one (.v (.bool true)))) := by
 refine FnT.walk Tryz.func55 rfl (by kernel_rfl) Tryz.ntmps55 rfl fun hlen w0 => ?_
 try simp [cEdge, cGraph, cStep, cChange, cBatch, cAutomaton, cProductStep, cView] at hlen
 refine AW.sr ?_
 refine AWl.put (R_boxz rfl rfl rfl (.tm rfl) (ts := _) (by rfl)) rfl ?_
 refine AWl.put (R_boxz rfl rfl rfl (.tm rfl) (ts := _) (by rfl)) rfl ?_
 refine AWl.ac rfl rfl rfl rfl rfl ?_
 refine AWl.nil ?_
 refine AW.seq ?_
 refine AW.sr ?_
 refine AWl.put (by exact R_fieldAddr rfl (.no rfl) rfl (.tm rfl) fl36_0) rfl ?_
 refine AWl.put (by exact R_load rfl (.no rfl) rfl (.tm rfl) ty3 rfl rfl) rfl ?_
 refine AWl.put (by exact R_fieldAddr rfl (.no rfl) rfl (.tm rfl) fl36_0) rfl ?_
 refine AWl.put (by exact R_load rfl (.no rfl) rfl (.tm rfl) ty3 rfl rfl) rfl ?_
 refine AWl.put (R_ne rfl (.no rfl) rfl (.tm rfl) (.tm rfl)) rfl ?_
 refine AWl.nil ?_
 refine AW.cond (.tm rfl) (fun h9 => ?_) (fun h9 => ?_)
 ·exact absurd h9 (by simp)
 ·skip
  try simp at h9
  refine AW.skip ?_
  refine AW.seq ?_
  refine AW.sr ?_
  refine AWl.put (by exact R_fieldAddr rfl (.no rfl) rfl (.tm rfl) fl36_1) rfl ?_
  refine AWl.put (by exact R_load rfl (.no rfl) rfl (.tm rfl) ty26 rfl rfl) rfl ?_
  refine AWl.put (by exact R_fieldAddr rfl (.no rfl) rfl (.tm rfl) fl36_1) rfl ?_
  refine AWl.put (by exact R_load rfl (.no rfl) rfl (.tm rfl) ty26 rfl rfl) rfl ?_
  refine AWl.put (R_callz (FnT.fr (HeqBoolS _)) rfl (.no rfl) rfl (.cons (.tm rfl) rfl (.cons (.tm rfl) rfl .nil))) rfl ?_
  refine AWl.put (R_not rfl (.no rfl) rfl (.tm rfl)) rfl ?_
  refine AWl.nil ?_
  refine AW.cond (.tm rfl) (fun h15 => ?_) (fun h15 => ?_)
  ·exact absurd h15 (by simp)
  ·skip
   try simp at h15
   refine AW.skip ?_
   refine AW.seq ?_
   refine AW.sr ?_
   refine AWl.put (by exact R_fieldAddr rfl (.no rfl) rfl (.tm rfl) fl36_2) rfl ?_
   refine AWl.put (by exact R_load rfl (.no rfl) rfl (.tm rfl) ty27 rfl rfl) rfl ?_
   refine AWl.put (by exact R_fieldAddr rfl (.no rfl) rfl (.tm rfl) fl36_2) rfl ?_
   refine AWl.put (by exact R_load rfl (.no rfl) rfl (.tm rfl) ty27 rfl rfl) rfl ?_
   refine AWl.put (R_callz (FnT.fr (HeqIntSS _)) rfl (.no rfl) rfl (.cons (.tm rfl) rfl (.cons (.tm rfl) rfl .nil))) rfl ?_
   refine AWl.put (R_not rfl (.no rfl) rfl (.tm rfl)) rfl ?_
   refine AWl.nil ?_
   refine AW.cond (.tm rfl) (fun h21 => ?_) (fun h21 => ?_)
   ·exact absurd h21 (by simp)
   ·skip
    try simp at h21
    refine AW.skip ?_
    refine AW.sr ?_
    refine AWl.ac rfl rfl rfl rfl rfl ?_
    refine AWl.nil ?_
    refine AW.ret ?_
    refine Res.v rfl rfl ?_
    rfl
set_option maxRecDepth 100000 in
theorem HszAutomaton (x : TAutomaton) (a : Int) (ha : 0 ≤ a ∧ a ≤ 1048576) : FnT Tryz.prog 45 [.agg (cAutomaton x), .one (.v (.int .i64 a))] (.a (.one (.v (.int .i64 (szAutomaton x a))))) := by
 refine FnT.walk Tryz.func45 rfl (by kernel_rfl) Tryz.ntmps45 rfl fun hlen w0 => ?_
 try simp [cEdge, cGraph, cStep, cChange, cBatch, cAutomaton, cProductStep, cView] at hlen
 have hb0 := szBoolS_ok x.Accept a
 have hb1 := szIntSS_ok x.Next (szBoolS x.Accept a)
 refine AW.sr ?_
 refine AWl.put (R_boxz rfl rfl rfl (.tm rfl) (ts := _) (by rfl)) rfl ?_
 refine AWl.ac rfl rfl rfl rfl rfl ?_
 refine AWl.nil ?_
 refine AW.sr ?_
 refine AWl.put (by exact R_fieldAddr rfl (.no rfl) rfl (.tm rfl) fl29_1) rfl ?_
 refine AWl.put (by exact R_load rfl (.no rfl) rfl (.tm rfl) ty26 rfl rfl) rfl ?_
 refine AWl.mv rfl rfl rfl rfl rfl ?_
 refine AWl.put (R_callz (FnT.fr (HszBoolS _ _ (by omega))) rfl (.no rfl) rfl (.cons (.tm rfl) rfl (.cons (.tm rfl) rfl .nil))) rfl ?_
 refine AWl.av rfl rfl rfl rfl rfl ?_
 refine AWl.nil ?_
 refine AW.seq ?_
 refine AW.sr ?_
 refine AWl.mv rfl rfl rfl rfl rfl ?_
 refine AWl.put (R_lt rfl (.no rfl) rfl (.tm rfl) (.const rfl)) rfl ?_
 refine AWl.nil ?_
 refine AW.cond (.tm rfl) (fun h10 => ?_) (fun h10 => ?_)
 ·skip
  try simp at h10
  refine AW.sr ?_
  refine AWl.ac rfl rfl rfl rfl rfl ?_
  refine AWl.nil ?_
  refine AW.ret ?_
  refine Res.v rfl rfl ?_
  simp only [szAutomaton, szSeq]; grind
 ·skip
  try simp at h10
  refine AW.skip ?_
  refine AW.sr ?_
  refine AWl.put (by exact R_fieldAddr rfl (.no rfl) rfl (.tm rfl) fl29_2) rfl ?_
  refine AWl.put (by exact R_load rfl (.no rfl) rfl (.tm rfl) ty27 rfl rfl) rfl ?_
  refine AWl.mv rfl rfl rfl rfl rfl ?_
  refine AWl.put (R_callz (FnT.fr (HszIntSS _ _ (by omega))) rfl (.no rfl) rfl (.cons (.tm rfl) rfl (.cons (.tm rfl) rfl .nil))) rfl ?_
  refine AWl.av rfl rfl rfl rfl rfl ?_
  refine AWl.nil ?_
  refine AW.seq ?_
  refine AW.sr ?_
  refine AWl.mv rfl rfl rfl rfl rfl ?_
  refine AWl.put (R_lt rfl (.no rfl) rfl (.tm rfl) (.const rfl)) rfl ?_
  refine AWl.nil ?_
  refine AW.cond (.tm rfl) (fun h16 => ?_) (fun h16 => ?_)
  ·skip
   try simp at h16
   refine AW.sr ?_
   refine AWl.ac rfl rfl rfl rfl rfl ?_
   refine AWl.nil ?_
   refine AW.ret ?_
   refine Res.v rfl rfl ?_
   simp only [szAutomaton, szSeq]; grind
  ·skip
   try simp at h16
   refine AW.skip ?_
   refine AW.sr ?_
   refine AWl.mv rfl rfl rfl rfl rfl ?_
   refine AWl.av rfl rfl rfl rfl rfl ?_
   refine AWl.nil ?_
   refine AW.ret ?_
   refine Res.v rfl rfl ?_
   simp only [szAutomaton, szSeq]; grind
set_option maxRecDepth 100000 in
theorem HtoView (x : TView) (hz : okView x) : FnT Tryz.prog 11 [.agg (cView x)] (.a (.agg (cView x))) := by
 refine FnT.walk Tryz.func11 rfl (by kernel_rfl) Tryz.ntmps11 rfl fun hlen w0 => ?_
 try simp [cEdge, cGraph, cStep, cChange, cBatch, cAutomaton, cProductStep, cView] at hlen
 refine AW.sr ?_
 refine AWl.put (R_boxz rfl rfl rfl (.tm rfl) (ts := _) (by rfl)) rfl ?_
 refine AWl.add (R_alloc 2 rfl rfl rfl in38 rfl rfl rfl) rfl ?_
 refine AWl.nil ?_
 refine AW.sr ?_
 refine AWl.add (R_alloc 3 rfl rfl rfl in38 rfl rfl rfl) rfl ?_
 refine AWl.nil ?_
 refine AW.sr ?_
 refine AWl.put (by exact R_fieldAddr rfl (.no rfl) rfl (.tm rfl) fl31_0) rfl ?_
 refine AWl.put (by exact R_load rfl (.no rfl) rfl (.tm rfl) ty29 rfl rfl) rfl ?_
 refine AWl.adds (R_call 600 (HtoAutomaton _ (by exact hz.1)) rfl rfl rfl (.cons (.tm rfl) rfl .nil) rfl rfl) rfl ?_
 refine AWl.put (by exact R_fieldAddr_pp rfl (.no rfl) rfl (.tm rfl) fl38_0) rfl ?_
 refine AWl.chgb (R_store_pb rfl rfl rfl (.tm rfl) (.tm rfl) rfl ty36 rfl rfl rfl (by kernel_rfl) rfl) ?_
 refine AWl.nil ?_
 refine AW.sr ?_
 refine AWl.put (by exact R_fieldAddr rfl (.no rfl) rfl (.tm rfl) fl31_1) rfl ?_
 refine AWl.put (by exact R_load rfl (.no rfl) rfl (.tm rfl) ty3 rfl rfl) rfl ?_
 refine AWl.put (by exact R_fieldAddr_pp rfl (.no rfl) rfl (.tm rfl) fl38_1) rfl ?_
 refine AWl.chgb (R_store_pb rfl rfl rfl (.tm rfl) (.tm rfl) rfl ty3 rfl rfl rfl (by kernel_rfl) rfl) ?_
 refine AWl.nil ?_
 refine AW.sr ?_
 refine AWl.put (by exact R_fieldAddr rfl (.no rfl) rfl (.tm rfl) fl31_2) rfl ?_
 refine AWl.put (by exact R_load rfl (.no rfl) rfl (.tm rfl) ty22 rfl rfl) rfl ?_
 refine AWl.adds (R_call 1300 (HtoIntS _ (by exact hz.2.1)) rfl rfl rfl (.cons (.tm rfl) rfl .nil) rfl rfl) rfl ?_
 refine AWl.put (by exact R_fieldAddr_pp rfl (.no rfl) rfl (.tm rfl) fl38_2) rfl ?_
 refine AWl.chgb (R_store_pb rfl rfl rfl (.tm rfl) (.tm rfl) rfl ty22 rfl rfl rfl (by kernel_rfl) rfl) ?_
 refine AWl.nil ?_
 refine AW.sr ?_
 refine AWl.put (by exact R_fieldAddr rfl (.no rfl) rfl (.tm rfl) fl31_3) rfl ?_
 refine AWl.put (by exact R_load rfl (.no rfl) rfl (.tm rfl) ty22 rfl rfl) rfl ?_
 refine AWl.adds (R_call 1700 (HtoIntS _ (by exact hz.2.2.1)) rfl rfl rfl (.cons (.tm rfl) rfl .nil) rfl rfl) rfl ?_
 refine AWl.put (by exact R_fieldAddr_pp rfl (.no rfl) rfl (.tm rfl) fl38_3) rfl ?_
 refine AWl.chgb (R_store_pb rfl rfl rfl (.tm rfl) (.tm rfl) rfl ty22 rfl rfl rfl (by kernel_rfl) rfl) ?_
 refine AWl.nil ?_
 refine AW.sr ?_
 refine AWl.put (by exact R_load_pp rfl (.no rfl) rfl (.tm rfl) rfl ty38 rfl rfl) rfl ?_
 refine AWl.chgb (R_store_pb rfl rfl rfl (.tm rfl) (.tm rfl) rfl ty38 rfl rfl rfl (by kernel_rfl) rfl) ?_
 refine AWl.nil ?_
 refine AW.ret ?_
 refine Res.one rfl (.cell rfl rfl ty38 rfl rfl .nil) rfl ?_
 rfl
set_option maxRecDepth 100000 in
theorem HeqView (x : TView) : FnT Tryz.prog 14 [.agg (cView x), .agg (cView x)] (.a (.one (.v (.bool true)))) := by
 refine FnT.walk Tryz.func14 rfl (by kernel_rfl) Tryz.ntmps14 rfl fun hlen w0 => ?_
 try simp [cEdge, cGraph, cStep, cChange, cBatch, cAutomaton, cProductStep, cView] at hlen
 refine AW.sr ?_
 refine AWl.put (R_boxz rfl rfl rfl (.tm rfl) (ts := _) (by rfl)) rfl ?_
 refine AWl.put (R_boxz rfl rfl rfl (.tm rfl) (ts := _) (by rfl)) rfl ?_
 refine AWl.ac rfl rfl rfl rfl rfl ?_
 refine AWl.nil ?_
 refine AW.seq ?_
 refine AW.sr ?_
 refine AWl.put (by exact R_fieldAddr rfl (.no rfl) rfl (.tm rfl) fl38_0) rfl ?_
 refine AWl.put (by exact R_load rfl (.no rfl) rfl (.tm rfl) ty36 rfl rfl) rfl ?_
 refine AWl.put (by exact R_fieldAddr rfl (.no rfl) rfl (.tm rfl) fl38_0) rfl ?_
 refine AWl.put (by exact R_load rfl (.no rfl) rfl (.tm rfl) ty36 rfl rfl) rfl ?_
 refine AWl.put (R_callz (FnT.fr (HeqAutomaton _)) rfl (.no rfl) rfl (.cons (.tm rfl) rfl (.cons (.tm rfl) rfl .nil))) rfl ?_
 refine AWl.put (R_not rfl (.no rfl) rfl (.tm rfl)) rfl ?_
 refine AWl.nil ?_
 refine AW.cond (.tm rfl) (fun h10 => ?_) (fun h10 => ?_)
 ·exact absurd h10 (by simp)
 ·skip
  try simp at h10
  refine AW.skip ?_
  refine AW.seq ?_
  refine AW.sr ?_
  refine AWl.put (by exact R_fieldAddr rfl (.no rfl) rfl (.tm rfl) fl38_1) rfl ?_
  refine AWl.put (by exact R_load rfl (.no rfl) rfl (.tm rfl) ty3 rfl rfl) rfl ?_
  refine AWl.put (by exact R_fieldAddr rfl (.no rfl) rfl (.tm rfl) fl38_1) rfl ?_
  refine AWl.put (by exact R_load rfl (.no rfl) rfl (.tm rfl) ty3 rfl rfl) rfl ?_
  refine AWl.put (R_ne rfl (.no rfl) rfl (.tm rfl) (.tm rfl)) rfl ?_
  refine AWl.nil ?_
  refine AW.cond (.tm rfl) (fun h15 => ?_) (fun h15 => ?_)
  ·exact absurd h15 (by simp)
  ·skip
   try simp at h15
   refine AW.skip ?_
   refine AW.seq ?_
   refine AW.sr ?_
   refine AWl.put (by exact R_fieldAddr rfl (.no rfl) rfl (.tm rfl) fl38_2) rfl ?_
   refine AWl.put (by exact R_load rfl (.no rfl) rfl (.tm rfl) ty22 rfl rfl) rfl ?_
   refine AWl.put (by exact R_fieldAddr rfl (.no rfl) rfl (.tm rfl) fl38_2) rfl ?_
   refine AWl.put (by exact R_load rfl (.no rfl) rfl (.tm rfl) ty22 rfl rfl) rfl ?_
   refine AWl.put (R_callz (FnT.fr (HeqIntS _)) rfl (.no rfl) rfl (.cons (.tm rfl) rfl (.cons (.tm rfl) rfl .nil))) rfl ?_
   refine AWl.put (R_not rfl (.no rfl) rfl (.tm rfl)) rfl ?_
   refine AWl.nil ?_
   refine AW.cond (.tm rfl) (fun h21 => ?_) (fun h21 => ?_)
   ·exact absurd h21 (by simp)
   ·skip
    try simp at h21
    refine AW.skip ?_
    refine AW.seq ?_
    refine AW.sr ?_
    refine AWl.put (by exact R_fieldAddr rfl (.no rfl) rfl (.tm rfl) fl38_3) rfl ?_
    refine AWl.put (by exact R_load rfl (.no rfl) rfl (.tm rfl) ty22 rfl rfl) rfl ?_
    refine AWl.put (by exact R_fieldAddr rfl (.no rfl) rfl (.tm rfl) fl38_3) rfl ?_
    refine AWl.put (by exact R_load rfl (.no rfl) rfl (.tm rfl) ty22 rfl rfl) rfl ?_
    refine AWl.put (R_callz (FnT.fr (HeqIntS _)) rfl (.no rfl) rfl (.cons (.tm rfl) rfl (.cons (.tm rfl) rfl .nil))) rfl ?_
    refine AWl.put (R_not rfl (.no rfl) rfl (.tm rfl)) rfl ?_
    refine AWl.nil ?_
    refine AW.cond (.tm rfl) (fun h27 => ?_) (fun h27 => ?_)
    ·exact absurd h27 (by simp)
    ·skip
     try simp at h27
     refine AW.skip ?_
     refine AW.sr ?_
     refine AWl.ac rfl rfl rfl rfl rfl ?_
     refine AWl.nil ?_
     refine AW.ret ?_
     refine Res.v rfl rfl ?_
     rfl
set_option maxRecDepth 100000 in
theorem HszView (x : TView) (a : Int) (ha : 0 ≤ a ∧ a ≤ 1048576) : FnT Tryz.prog 8 [.agg (cView x), .one (.v (.int .i64 a))] (.a (.one (.v (.int .i64 (szView x a))))) := by
 refine FnT.walk Tryz.func8 rfl (by kernel_rfl) Tryz.ntmps8 rfl fun hlen w0 => ?_
 try simp [cEdge, cGraph, cStep, cChange, cBatch, cAutomaton, cProductStep, cView] at hlen
 have hb0 := szAutomaton_ok x.Automaton a
 have hb1 := szIntS_ok x.Ranks (szAutomaton x.Automaton a)
 have hb2 := szIntS_ok x.Supports (szIntS x.Ranks (szAutomaton x.Automaton a))
 refine AW.sr ?_
 refine AWl.put (R_boxz rfl rfl rfl (.tm rfl) (ts := _) (by rfl)) rfl ?_
 refine AWl.ac rfl rfl rfl rfl rfl ?_
 refine AWl.nil ?_
 refine AW.sr ?_
 refine AWl.put (by exact R_fieldAddr rfl (.no rfl) rfl (.tm rfl) fl31_0) rfl ?_
 refine AWl.put (by exact R_load rfl (.no rfl) rfl (.tm rfl) ty29 rfl rfl) rfl ?_
 refine AWl.mv rfl rfl rfl rfl rfl ?_
 refine AWl.put (R_callz (FnT.fr (HszAutomaton _ _ (by omega))) rfl (.no rfl) rfl (.cons (.tm rfl) rfl (.cons (.tm rfl) rfl .nil))) rfl ?_
 refine AWl.av rfl rfl rfl rfl rfl ?_
 refine AWl.nil ?_
 refine AW.seq ?_
 refine AW.sr ?_
 refine AWl.mv rfl rfl rfl rfl rfl ?_
 refine AWl.put (R_lt rfl (.no rfl) rfl (.tm rfl) (.const rfl)) rfl ?_
 refine AWl.nil ?_
 refine AW.cond (.tm rfl) (fun h10 => ?_) (fun h10 => ?_)
 ·skip
  try simp at h10
  refine AW.sr ?_
  refine AWl.ac rfl rfl rfl rfl rfl ?_
  refine AWl.nil ?_
  refine AW.ret ?_
  refine Res.v rfl rfl ?_
  simp only [szView, szSeq]; grind
 ·skip
  try simp at h10
  refine AW.skip ?_
  refine AW.sr ?_
  refine AWl.put (by exact R_fieldAddr rfl (.no rfl) rfl (.tm rfl) fl31_2) rfl ?_
  refine AWl.put (by exact R_load rfl (.no rfl) rfl (.tm rfl) ty22 rfl rfl) rfl ?_
  refine AWl.mv rfl rfl rfl rfl rfl ?_
  refine AWl.put (R_callz (FnT.fr (HszIntS _ _ (by omega))) rfl (.no rfl) rfl (.cons (.tm rfl) rfl (.cons (.tm rfl) rfl .nil))) rfl ?_
  refine AWl.av rfl rfl rfl rfl rfl ?_
  refine AWl.nil ?_
  refine AW.seq ?_
  refine AW.sr ?_
  refine AWl.mv rfl rfl rfl rfl rfl ?_
  refine AWl.put (R_lt rfl (.no rfl) rfl (.tm rfl) (.const rfl)) rfl ?_
  refine AWl.nil ?_
  refine AW.cond (.tm rfl) (fun h16 => ?_) (fun h16 => ?_)
  ·skip
   try simp at h16
   refine AW.sr ?_
   refine AWl.ac rfl rfl rfl rfl rfl ?_
   refine AWl.nil ?_
   refine AW.ret ?_
   refine Res.v rfl rfl ?_
   simp only [szView, szSeq]; grind
  ·skip
   try simp at h16
   refine AW.skip ?_
   refine AW.sr ?_
   refine AWl.put (by exact R_fieldAddr rfl (.no rfl) rfl (.tm rfl) fl31_3) rfl ?_
   refine AWl.put (by exact R_load rfl (.no rfl) rfl (.tm rfl) ty22 rfl rfl) rfl ?_
   refine AWl.mv rfl rfl rfl rfl rfl ?_
   refine AWl.put (R_callz (FnT.fr (HszIntS _ _ (by omega))) rfl (.no rfl) rfl (.cons (.tm rfl) rfl (.cons (.tm rfl) rfl .nil))) rfl ?_
   refine AWl.av rfl rfl rfl rfl rfl ?_
   refine AWl.nil ?_
   refine AW.seq ?_
   refine AW.sr ?_
   refine AWl.mv rfl rfl rfl rfl rfl ?_
   refine AWl.put (R_lt rfl (.no rfl) rfl (.tm rfl) (.const rfl)) rfl ?_
   refine AWl.nil ?_
   refine AW.cond (.tm rfl) (fun h22 => ?_) (fun h22 => ?_)
   ·skip
    try simp at h22
    refine AW.sr ?_
    refine AWl.ac rfl rfl rfl rfl rfl ?_
    refine AWl.nil ?_
    refine AW.ret ?_
    refine Res.v rfl rfl ?_
    simp only [szView, szSeq]; grind
   ·skip
    try simp at h22
    refine AW.skip ?_
    refine AW.sr ?_
    refine AWl.mv rfl rfl rfl rfl rfl ?_
    refine AWl.av rfl rfl rfl rfl rfl ?_
    refine AWl.nil ?_
    refine AW.ret ?_
    refine Res.v rfl rfl ?_
    simp only [szView, szSeq]; grind
end Go.Proofs.YtoealglkenhphaaGreat
