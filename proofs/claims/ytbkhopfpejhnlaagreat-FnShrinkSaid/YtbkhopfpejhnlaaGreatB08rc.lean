import Derived.Test.YtbkhopfpejhnlaaGreatSortrc
import Derived.Test.YtbkhopfpejhnlaaGreatAbsRrc
set_option linter.unusedVariables false
set_option linter.unusedSimpArgs false
set_option maxHeartbeats 1000000
set_option maxRecDepth 100000
namespace Go.Q
open Go.D
def zerT (t : TToken) : Bool := decide (t.Letter = 0) && decide (t.Low = 0) && decide (t.High = 0)
def arity (t : TToken) : Int :=
 if t.Kind = 1 ∨ t.Kind = 2 then (if zerT t then 0 else -1)
 else if t.Kind = 3 then (if inB t.Letter 0 8 && decide (t.Low = 0) && decide (t.High = 0) then 0 else -1)
 else if t.Kind = 4 ∨ t.Kind = 5 then (if zerT t then 2 else -1)
 else if t.Kind = 6 then (if zerT t then 1 else -1)
 else if t.Kind = 7 then (if decide (t.Letter = 0) && inB t.High 1 3 && inB t.Low 0 t.High then 1 else -1)
 else -1
def tokOk (t : TToken) : Bool := decide (0 ≤ arity t)
def depthGo : Int → List TToken → Bool
 | d, [] => decide (d = 1)
 | d, t :: r => if arity t < 0 ∨ d < arity t then false else depthGo (d - arity t + 1) r
def isExpr (l : List TToken) : Bool := depthGo 0 l
theorem depthGo_drop {l : List TToken} {k : Nat} {t : TToken} {d : Int} (h : l[k]? = some t) : depthGo d (l.drop k) = if arity t < 0 ∨ d < arity t then false else depthGo (d - arity t + 1) (l.drop (k + 1)) := by
 rw [drop_at h, depthGo]
theorem arity_le (t : TToken) : -1 ≤ arity t ∧ arity t ≤ 2 := by
 unfold arity
 repeat' split
 all_goals omega
end Go.Q
namespace Go.Proofs.YtbkhopfpejhnlaaGreat
open Go.RowKit Go.Q Go.D
theorem specl8Arity (t : TToken) : FnT Tryz.prog 114 [.agg (cToken t)] (.a (.one (.v (.int .i64 (arity t))))) := by
 refine FnT.walk Tryz.func114 U (by kernel_rfl) Tryz.ntmps114 U fun hlen w0 => ?_
 try simp [cPair, cToken, cExpr, cEdge, cGraph] at hlen
 refine AW.sr ?_
 refine AWl.p (R_boxz U U U (.tm U) (ts := _) (by rfl)) U ?_
 refine AWl.ac ?_
 refine AWl.nil (AW.seq ?_)
 refine AW.sr ?_
 refine AWl.p (by exact R_fieldAddr U (.no U) U (.tm U) fl100_0) U ?_
 refine AWl.p (by exact R_load U (.no U) U (.tm U) ty3 U U) U ?_
 refine AWl.nil (AW.block ?_)
 refine AW.seq ?_
 refine AW.sr ?_
 refine AWl.p (R_eq U (.no U) U (.tm U) (.const U)) U ?_
 refine AWl.av ?_
 refine AWl.nil ?_
 refine AW.cond (.tm U) (fun h5 => ?_) (fun h5 => ?_)
 · skip
   try simp at h5
   refine AW.skip ?_
   refine AW.cond (.tm U) (fun h5 => ?_) (fun h5 => ?_)
   · skip
     try simp at h5
     refine AW.seq ?_
     refine AW.sr ?_
     refine AWl.p (by exact R_fieldAddr U (.no U) U (.tm U) fl100_1) U ?_
     refine AWl.p (by exact R_load U (.no U) U (.tm U) ty3 U U) U ?_
     refine AWl.p (R_ne U (.no U) U (.tm U) (.const U)) U ?_
     refine AWl.mv ?_
     refine AWl.p (by exact R_fieldAddr U (by exact .not1 U U U U) U (.tmp U (by exact fun _ => rfl)) fl100_2) U ?_
     refine AWl.p (by exact R_load U (by exact .not1 U U U U) U (.tmp U (by exact id)) ty3 U U) U ?_
     refine AWl.p (R_ne U (by exact .not1 U U U U) U (.tmp U (by exact id)) (.const U)) U ?_
     refine AWl.p (R_or U (.no U) U (.tm U) (.tmp U (by exact id))) U ?_
     refine AWl.mv ?_
     refine AWl.p (by exact R_fieldAddr U (by exact .not1 U U U U) U (.tmp U (by exact fun _ => rfl)) fl100_3) U ?_
     refine AWl.p (by exact R_load U (by exact .not1 U U U U) U (.tmp U (by exact id)) ty3 U U) U ?_
     refine AWl.p (R_ne U (by exact .not1 U U U U) U (.tmp U (by exact id)) (.const U)) U ?_
     refine AWl.p (R_or U (.no U) U (.tm U) (.tmp U (by exact id))) U ?_
     refine AWl.nil ?_
     refine AW.cond (.tm U) (fun h20 => ?_) (fun h20 => ?_)
     · skip
       try simp at h20
       refine AW.seq ?_
       refine AW.le (σ' := ⟨_, [(0, _), (1, _), (2, _), (4, _), (5, _)], []⟩) (Le.sub0 U ⟨U, U, U, U, U, Y⟩ trivial) ?_
       refine AW.region ?_
       refine AWl.ac ?_
       refine AWl.nil (AW.ret ?_)
       refine Res.v U U ?_
       unfold arity zerT; grind
     · skip
       try simp at h20
       refine AW.skip ?_
       refine AW.seq ?_
       refine AW.le (σ' := ⟨_, [(0, _), (1, _), (2, _), (4, _), (5, _)], []⟩) (Le.sub0 U ⟨U, U, U, U, U, Y⟩ trivial) ?_
       refine AW.region ?_
       refine AWl.ac ?_
       refine AWl.nil (AW.ret ?_)
       refine Res.v U U ?_
       unfold arity zerT; grind
   · exfalso; (try simp at h5); first | contradiction | omega | simp_all | grind
 · skip
   try simp at h5
   refine AW.region ?_
   refine AWl.p (R_eq U (.no U) U (.tm U) (.const U)) U ?_
   refine AWl.av ?_
   refine AWl.nil ?_
   refine AW.cond (.tm U) (fun h5 => ?_) (fun h5 => ?_)
   · skip
     try simp at h5
     refine AW.seq ?_
     refine AW.sr ?_
     refine AWl.p (by exact R_fieldAddr U (.no U) U (.tm U) fl100_1) U ?_
     refine AWl.p (by exact R_load U (.no U) U (.tm U) ty3 U U) U ?_
     refine AWl.p (R_ne U (.no U) U (.tm U) (.const U)) U ?_
     refine AWl.mv ?_
     refine AWl.p (by exact R_fieldAddr U (by exact .not1 U U U U) U (.tmp U (by exact fun _ => rfl)) fl100_2) U ?_
     refine AWl.p (by exact R_load U (by exact .not1 U U U U) U (.tmp U (by exact id)) ty3 U U) U ?_
     refine AWl.p (R_ne U (by exact .not1 U U U U) U (.tmp U (by exact id)) (.const U)) U ?_
     refine AWl.p (R_or U (.no U) U (.tm U) (.tmp U (by exact id))) U ?_
     refine AWl.mv ?_
     refine AWl.p (by exact R_fieldAddr U (by exact .not1 U U U U) U (.tmp U (by exact fun _ => rfl)) fl100_3) U ?_
     refine AWl.p (by exact R_load U (by exact .not1 U U U U) U (.tmp U (by exact id)) ty3 U U) U ?_
     refine AWl.p (R_ne U (by exact .not1 U U U U) U (.tmp U (by exact id)) (.const U)) U ?_
     refine AWl.p (R_or U (.no U) U (.tm U) (.tmp U (by exact id))) U ?_
     refine AWl.nil ?_
     refine AW.cond (.tm U) (fun h20 => ?_) (fun h20 => ?_)
     · skip
       try simp at h20
       refine AW.seq ?_
       refine AW.le (σ' := ⟨_, [(0, _), (1, _), (2, _), (4, _), (5, _)], []⟩) (Le.sub0 U ⟨U, U, U, U, U, Y⟩ trivial) ?_
       refine AW.region ?_
       refine AWl.ac ?_
       refine AWl.nil (AW.ret ?_)
       refine Res.v U U ?_
       unfold arity zerT; grind
     · skip
       try simp at h20
       refine AW.skip ?_
       refine AW.seq ?_
       refine AW.le (σ' := ⟨_, [(0, _), (1, _), (2, _), (4, _), (5, _)], []⟩) (Le.sub0 U ⟨U, U, U, U, U, Y⟩ trivial) ?_
       refine AW.region ?_
       refine AWl.ac ?_
       refine AWl.nil (AW.ret ?_)
       refine Res.v U U ?_
       unfold arity zerT; grind
   · skip
     try simp at h5
     refine AW.sr ?_
     refine AWl.p (R_eq U (.no U) U (.tm U) (.const U)) U ?_
     refine AWl.av ?_
     refine AWl.nil ?_
     refine AW.cond (.tm U) (fun h21 => ?_) (fun h21 => ?_)
     · skip
       try simp at h21
       refine AW.seq ?_
       refine AW.sr ?_
       refine AWl.p (by exact R_fieldAddr U (.no U) U (.tm U) fl100_1) U ?_
       refine AWl.p (by exact R_load U (.no U) U (.tm U) ty3 U U) U ?_
       refine AWl.p (R_callz (FnT.fr (specl2Letter _)) U (.no U) U (.cons (.tm U) U .nil)) U ?_
       refine AWl.p (R_not U (.no U) U (.tm U)) U ?_
       refine AWl.mv ?_
       refine AWl.p (by exact R_fieldAddr U (by exact .not1 U U U U) U (.tmp U (by exact fun _ => rfl)) fl100_2) U ?_
       refine AWl.p (by exact R_load U (by exact .not1 U U U U) U (.tmp U (by exact id)) ty3 U U) U ?_
       refine AWl.p (R_ne U (by exact .not1 U U U U) U (.tmp U (by exact id)) (.const U)) U ?_
       refine AWl.p (R_or U (.no U) U (.tm U) (.tmp U (by exact id))) U ?_
       refine AWl.mv ?_
       refine AWl.p (by exact R_fieldAddr U (by exact .not1 U U U U) U (.tmp U (by exact fun _ => rfl)) fl100_3) U ?_
       refine AWl.p (by exact R_load U (by exact .not1 U U U U) U (.tmp U (by exact id)) ty3 U U) U ?_
       refine AWl.p (R_ne U (by exact .not1 U U U U) U (.tmp U (by exact id)) (.const U)) U ?_
       refine AWl.p (R_or U (.no U) U (.tm U) (.tmp U (by exact id))) U ?_
       refine AWl.nil ?_
       refine AW.cond (.tm U) (fun h36 => ?_) (fun h36 => ?_)
       · skip
         try simp at h36
         refine AW.seq ?_
         refine AW.le (σ' := ⟨_, [(0, _), (1, _), (2, _), (4, _), (5, _)], []⟩) (Le.sub0 U ⟨U, U, U, U, U, Y⟩ trivial) ?_
         refine AW.region ?_
         refine AWl.ac ?_
         refine AWl.nil (AW.ret ?_)
         refine Res.v U U ?_
         unfold arity zerT; grind
       · skip
         try simp at h36
         refine AW.skip ?_
         refine AW.seq ?_
         refine AW.le (σ' := ⟨_, [(0, _), (1, _), (2, _), (4, _), (5, _)], []⟩) (Le.sub0 U ⟨U, U, U, U, U, Y⟩ trivial) ?_
         refine AW.region ?_
         refine AWl.ac ?_
         refine AWl.nil (AW.ret ?_)
         refine Res.v U U ?_
         unfold arity zerT; grind
     · skip
       try simp at h21
       refine AW.seq ?_
       refine AW.sr ?_
       refine AWl.p (R_eq U (.no U) U (.tm U) (.const U)) U ?_
       refine AWl.av ?_
       refine AWl.nil ?_
       refine AW.cond (.tm U) (fun h37 => ?_) (fun h37 => ?_)
       · skip
         try simp at h37
         refine AW.skip ?_
         refine AW.cond (.tm U) (fun h37 => ?_) (fun h37 => ?_)
         · skip
           try simp at h37
           refine AW.seq ?_
           refine AW.seq ?_
           refine AW.le (σ' := ⟨_, [(0, _), (1, _), (2, _), (4, _), (5, _), (37, _)], []⟩) (Le.sub0 U ⟨U, U, U, U, U, U, Y⟩ trivial) ?_
           refine AW.region ?_
           refine AWl.p (by exact R_fieldAddr U (.no U) U (.tm U) fl100_1) U ?_
           refine AWl.p (by exact R_load U (.no U) U (.tm U) ty3 U U) U ?_
           refine AWl.p (R_ne U (.no U) U (.tm U) (.const U)) U ?_
           refine AWl.mv ?_
           refine AWl.p (by exact R_fieldAddr U (by exact .not1 U U U U) U (.tmp U (by exact fun _ => rfl)) fl100_2) U ?_
           refine AWl.p (by exact R_load U (by exact .not1 U U U U) U (.tmp U (by exact id)) ty3 U U) U ?_
           refine AWl.p (R_ne U (by exact .not1 U U U U) U (.tmp U (by exact id)) (.const U)) U ?_
           refine AWl.p (R_or U (.no U) U (.tm U) (.tmp U (by exact id))) U ?_
           refine AWl.mv ?_
           refine AWl.p (by exact R_fieldAddr U (by exact .not1 U U U U) U (.tmp U (by exact fun _ => rfl)) fl100_3) U ?_
           refine AWl.p (by exact R_load U (by exact .not1 U U U U) U (.tmp U (by exact id)) ty3 U U) U ?_
           refine AWl.p (R_ne U (by exact .not1 U U U U) U (.tmp U (by exact id)) (.const U)) U ?_
           refine AWl.p (R_or U (.no U) U (.tm U) (.tmp U (by exact id))) U ?_
           refine AWl.nil ?_
           refine AW.cond (.tm U) (fun h52 => ?_) (fun h52 => ?_)
           · skip
             try simp at h52
             refine AW.seq ?_
             refine AW.le (σ' := ⟨_, [(0, _), (1, _), (2, _), (4, _), (5, _), (37, _)], []⟩) (Le.sub0 U ⟨U, U, U, U, U, U, Y⟩ trivial) ?_
             refine AW.region ?_
             refine AWl.ac ?_
             refine AWl.nil (AW.ret ?_)
             refine Res.v U U ?_
             unfold arity zerT; grind
           · skip
             try simp at h52
             refine AW.skip ?_
             refine AW.seq ?_
             refine AW.le (σ' := ⟨_, [(0, _), (1, _), (2, _), (4, _), (5, _), (37, _)], []⟩) (Le.sub0 U ⟨U, U, U, U, U, U, Y⟩ trivial) ?_
             refine AW.region ?_
             refine AWl.ac ?_
             refine AWl.nil (AW.ret ?_)
             refine Res.v U U ?_
             unfold arity zerT; grind
         · exfalso; (try simp at h37); first | contradiction | omega | simp_all | grind
       · skip
         try simp at h37
         refine AW.le (σ' := ⟨_, [(0, _), (1, _), (2, _), (4, _), (5, _), (37, _)], []⟩) (Le.sub0 U ⟨U, U, U, U, U, U, Y⟩ trivial) ?_
         refine AW.region ?_
         refine AWl.p (R_eq U (.no U) U (.tm U) (.const U)) U ?_
         refine AWl.av ?_
         refine AWl.nil ?_
         refine AW.cond (.tm U) (fun h37 => ?_) (fun h37 => ?_)
         · skip
           try simp at h37
           refine AW.seq ?_
           refine AW.sr ?_
           refine AWl.p (by exact R_fieldAddr U (.no U) U (.tm U) fl100_1) U ?_
           refine AWl.p (by exact R_load U (.no U) U (.tm U) ty3 U U) U ?_
           refine AWl.p (R_ne U (.no U) U (.tm U) (.const U)) U ?_
           refine AWl.mv ?_
           refine AWl.p (by exact R_fieldAddr U (by exact .not1 U U U U) U (.tmp U (by exact fun _ => rfl)) fl100_2) U ?_
           refine AWl.p (by exact R_load U (by exact .not1 U U U U) U (.tmp U (by exact id)) ty3 U U) U ?_
           refine AWl.p (R_ne U (by exact .not1 U U U U) U (.tmp U (by exact id)) (.const U)) U ?_
           refine AWl.p (R_or U (.no U) U (.tm U) (.tmp U (by exact id))) U ?_
           refine AWl.mv ?_
           refine AWl.p (by exact R_fieldAddr U (by exact .not1 U U U U) U (.tmp U (by exact fun _ => rfl)) fl100_3) U ?_
           refine AWl.p (by exact R_load U (by exact .not1 U U U U) U (.tmp U (by exact id)) ty3 U U) U ?_
           refine AWl.p (R_ne U (by exact .not1 U U U U) U (.tmp U (by exact id)) (.const U)) U ?_
           refine AWl.p (R_or U (.no U) U (.tm U) (.tmp U (by exact id))) U ?_
           refine AWl.nil ?_
           refine AW.cond (.tm U) (fun h52 => ?_) (fun h52 => ?_)
           · skip
             try simp at h52
             refine AW.seq ?_
             refine AW.le (σ' := ⟨_, [(0, _), (1, _), (2, _), (4, _), (5, _), (37, _)], []⟩) (Le.sub0 U ⟨U, U, U, U, U, U, Y⟩ trivial) ?_
             refine AW.region ?_
             refine AWl.ac ?_
             refine AWl.nil (AW.ret ?_)
             refine Res.v U U ?_
             unfold arity zerT; grind
           · skip
             try simp at h52
             refine AW.skip ?_
             refine AW.seq ?_
             refine AW.le (σ' := ⟨_, [(0, _), (1, _), (2, _), (4, _), (5, _), (37, _)], []⟩) (Le.sub0 U ⟨U, U, U, U, U, U, Y⟩ trivial) ?_
             refine AW.region ?_
             refine AWl.ac ?_
             refine AWl.nil (AW.ret ?_)
             refine Res.v U U ?_
             unfold arity zerT; grind
         · skip
           try simp at h37
           refine AW.sr ?_
           refine AWl.p (R_eq U (.no U) U (.tm U) (.const U)) U ?_
           refine AWl.av ?_
           refine AWl.nil ?_
           refine AW.cond (.tm U) (fun h53 => ?_) (fun h53 => ?_)
           · skip
             try simp at h53
             refine AW.seq ?_
             refine AW.sr ?_
             refine AWl.p (by exact R_fieldAddr U (.no U) U (.tm U) fl100_1) U ?_
             refine AWl.p (by exact R_load U (.no U) U (.tm U) ty3 U U) U ?_
             refine AWl.p (R_ne U (.no U) U (.tm U) (.const U)) U ?_
             refine AWl.mv ?_
             refine AWl.p (by exact R_fieldAddr U (by exact .not1 U U U U) U (.tmp U (by exact fun _ => rfl)) fl100_2) U ?_
             refine AWl.p (by exact R_load U (by exact .not1 U U U U) U (.tmp U (by exact id)) ty3 U U) U ?_
             refine AWl.p (R_ne U (by exact .not1 U U U U) U (.tmp U (by exact id)) (.const U)) U ?_
             refine AWl.p (R_or U (.no U) U (.tm U) (.tmp U (by exact id))) U ?_
             refine AWl.mv ?_
             refine AWl.p (by exact R_fieldAddr U (by exact .not1 U U U U) U (.tmp U (by exact fun _ => rfl)) fl100_3) U ?_
             refine AWl.p (by exact R_load U (by exact .not1 U U U U) U (.tmp U (by exact id)) ty3 U U) U ?_
             refine AWl.p (R_ne U (by exact .not1 U U U U) U (.tmp U (by exact id)) (.const U)) U ?_
             refine AWl.p (R_or U (.no U) U (.tm U) (.tmp U (by exact id))) U ?_
             refine AWl.nil ?_
             refine AW.cond (.tm U) (fun h67 => ?_) (fun h67 => ?_)
             · skip
               try simp at h67
               refine AW.seq ?_
               refine AW.le (σ' := ⟨_, [(0, _), (1, _), (2, _), (4, _), (5, _), (37, _)], []⟩) (Le.sub0 U ⟨U, U, U, U, U, U, Y⟩ trivial) ?_
               refine AW.region ?_
               refine AWl.ac ?_
               refine AWl.nil (AW.ret ?_)
               refine Res.v U U ?_
               unfold arity zerT; grind
             · skip
               try simp at h67
               refine AW.skip ?_
               refine AW.seq ?_
               refine AW.le (σ' := ⟨_, [(0, _), (1, _), (2, _), (4, _), (5, _), (37, _)], []⟩) (Le.sub0 U ⟨U, U, U, U, U, U, Y⟩ trivial) ?_
               refine AW.region ?_
               refine AWl.ac ?_
               refine AWl.nil (AW.ret ?_)
               refine Res.v U U ?_
               unfold arity zerT; grind
           · skip
             try simp at h53
             refine AW.sr ?_
             refine AWl.p (R_eq U (.no U) U (.tm U) (.const U)) U ?_
             refine AWl.av ?_
             refine AWl.nil ?_
             refine AW.cond (.tm U) (fun h68 => ?_) (fun h68 => ?_)
             · skip
               try simp at h68
               refine AW.seq ?_
               refine AW.sr ?_
               refine AWl.p (by exact R_fieldAddr U (.no U) U (.tm U) fl100_1) U ?_
               refine AWl.p (by exact R_load U (.no U) U (.tm U) ty3 U U) U ?_
               refine AWl.p (R_ne U (.no U) U (.tm U) (.const U)) U ?_
               refine AWl.mv ?_
               refine AWl.p (by exact R_fieldAddr U (by exact .not1 U U U U) U (.tmp U (by exact fun _ => rfl)) fl100_3) U ?_
               refine AWl.p (by exact R_load U (by exact .not1 U U U U) U (.tmp U (by exact id)) ty3 U U) U ?_
               refine AWl.p (R_callz (FnT.fr (specl1In _ _ _)) U (by exact .not1 U U U U) U (.cons (.tmp U (by exact id)) U (.cons (.const U) U (.cons (.const U) U .nil)))) U ?_
               refine AWl.p (R_not U (by exact .not1 U U U U) U (.tmp U (by exact id))) U ?_
               refine AWl.p (R_or U (.no U) U (.tm U) (.tmp U (by exact id))) U ?_
               refine AWl.mv ?_
               refine AWl.p (by exact R_fieldAddr U (by exact .not1 U U U U) U (.tmp U (by exact fun _ => rfl)) fl100_2) U ?_
               refine AWl.p (by exact R_load U (by exact .not1 U U U U) U (.tmp U (by exact id)) ty3 U U) U ?_
               refine AWl.p (by exact R_fieldAddr U (by exact .not1 U U U U) U (.tmp U (by exact fun _ => rfl)) fl100_3) U ?_
               refine AWl.p (by exact R_load U (by exact .not1 U U U U) U (.tmp U (by exact id)) ty3 U U) U ?_
               refine AWl.p (R_callz (FnT.fr (specl1In _ _ _)) U (by exact .not1 U U U U) U (.cons (.tmp U (by exact id)) U (.cons (.const U) U (.cons (.tmp U (by exact id)) U .nil)))) U ?_
               refine AWl.p (R_not U (by exact .not1 U U U U) U (.tmp U (by exact id))) U ?_
               refine AWl.p (R_or U (.no U) U (.tm U) (.tmp U (by exact id))) U ?_
               refine AWl.nil ?_
               refine AW.cond (.tm U) (fun h86 => ?_) (fun h86 => ?_)
               · skip
                 try simp at h86
                 refine AW.seq ?_
                 refine AW.le (σ' := ⟨_, [(0, _), (1, _), (2, _), (4, _), (5, _), (37, _)], []⟩) (Le.sub0 U ⟨U, U, U, U, U, U, Y⟩ trivial) ?_
                 refine AW.region ?_
                 refine AWl.ac ?_
                 refine AWl.nil (AW.ret ?_)
                 refine Res.v U U ?_
                 unfold arity zerT; grind
               · skip
                 try simp at h86
                 refine AW.skip ?_
                 refine AW.seq ?_
                 refine AW.le (σ' := ⟨_, [(0, _), (1, _), (2, _), (4, _), (5, _), (37, _)], []⟩) (Le.sub0 U ⟨U, U, U, U, U, U, Y⟩ trivial) ?_
                 refine AW.region ?_
                 refine AWl.ac ?_
                 refine AWl.nil (AW.ret ?_)
                 refine Res.v U U ?_
                 unfold arity zerT; grind
             · skip
               try simp at h68
               refine AW.skip ?_
               refine AW.sr ?_
               refine AWl.ac ?_
               refine AWl.nil (AW.ret ?_)
               refine Res.v U U ?_
               unfold arity zerT; grind
theorem impltokenOk (t : TToken) : FnT Tryz.prog 104 [.agg (cToken t)] (.a (.one (.v (.bool (tokOk t))))) := by
 refine FnT.walk Tryz.func104 U (by kernel_rfl) Tryz.ntmps104 U fun hlen w0 => ?_
 try simp [cPair, cToken, cExpr, cEdge, cGraph] at hlen
 refine AW.sr ?_
 refine AWl.p (R_boxz U U U (.tm U) (ts := _) (by rfl)) U ?_
 refine AWl.ac ?_
 refine AWl.nil (AW.seq ?_)
 refine AW.sr ?_
 refine AWl.p (by exact R_fieldAddr U (.no U) U (.tm U) fl100_0) U ?_
 refine AWl.p (by exact R_load U (.no U) U (.tm U) ty3 U U) U ?_
 refine AWl.nil (AW.block ?_)
 refine AW.sr ?_
 refine AWl.p (R_eq U (.no U) U (.tm U) (.const U)) U ?_
 refine AWl.av ?_
 refine AWl.nil ?_
 refine AW.cond (.tm U) (fun h5 => ?_) (fun h5 => ?_)
 · skip
   try simp at h5
   refine AW.sr ?_
   refine AWl.p (by exact R_fieldAddr U (.no U) U (.tm U) fl100_1) U ?_
   refine AWl.p (by exact R_load U (.no U) U (.tm U) ty3 U U) U ?_
   refine AWl.p (R_callz (FnT.fr (implisLetter _)) U (.no U) U (.cons (.tm U) U .nil)) U ?_
   refine AWl.mv ?_
   refine AWl.p (by exact R_fieldAddr U (by exact .yes1 U U U U) U (.tmp U (by exact fun _ => rfl)) fl100_2) U ?_
   refine AWl.p (by exact R_load U (by exact .yes1 U U U U) U (.tmp U (by exact id)) ty3 U U) U ?_
   refine AWl.p (R_eq U (by exact .yes1 U U U U) U (.tmp U (by exact id)) (.const U)) U ?_
   refine AWl.p (R_and U (.no U) U (.tm U) (.tmp U (by exact id))) U ?_
   refine AWl.mv ?_
   refine AWl.p (by exact R_fieldAddr U (by exact .yes1 U U U U) U (.tmp U (by exact fun _ => rfl)) fl100_3) U ?_
   refine AWl.p (by exact R_load U (by exact .yes1 U U U U) U (.tmp U (by exact id)) ty3 U U) U ?_
   refine AWl.p (R_eq U (by exact .yes1 U U U U) U (.tmp U (by exact id)) (.const U)) U ?_
   refine AWl.p (R_and U (.no U) U (.tm U) (.tmp U (by exact id))) U ?_
   refine AWl.av ?_
   refine AWl.nil (AW.ret ?_)
   refine Res.v U U ?_
   congr 1; unfold tokOk arity zerT; simp only [*]; simp <;> (repeat' split) <;> simp_all <;> grind
 · skip
   try simp at h5
   refine AW.sr ?_
   refine AWl.p (R_eq U (.no U) U (.tm U) (.const U)) U ?_
   refine AWl.av ?_
   refine AWl.nil ?_
   refine AW.cond (.tm U) (fun h20 => ?_) (fun h20 => ?_)
   · skip
     try simp at h20
     refine AW.sr ?_
     refine AWl.p (by exact R_fieldAddr U (.no U) U (.tm U) fl100_1) U ?_
     refine AWl.p (by exact R_load U (.no U) U (.tm U) ty3 U U) U ?_
     refine AWl.p (R_eq U (.no U) U (.tm U) (.const U)) U ?_
     refine AWl.mv ?_
     refine AWl.p (by exact R_fieldAddr U (by exact .yes1 U U U U) U (.tmp U (by exact fun _ => rfl)) fl100_2) U ?_
     refine AWl.p (by exact R_load U (by exact .yes1 U U U U) U (.tmp U (by exact id)) ty3 U U) U ?_
     refine AWl.p (by exact R_fieldAddr U (by exact .yes1 U U U U) U (.tmp U (by exact fun _ => rfl)) fl100_3) U ?_
     refine AWl.p (by exact R_load U (by exact .yes1 U U U U) U (.tmp U (by exact id)) ty3 U U) U ?_
     refine AWl.p (R_callz (FnT.fr (implwithin _ _ _)) U (by exact .yes1 U U U U) U (.cons (.tmp U (by exact id)) U (.cons (.const U) U (.cons (.tmp U (by exact id)) U .nil)))) U ?_
     refine AWl.p (R_and U (.no U) U (.tm U) (.tmp U (by exact id))) U ?_
     refine AWl.mv ?_
     refine AWl.p (by exact R_fieldAddr U (by exact .yes1 U U U U) U (.tmp U (by exact fun _ => rfl)) fl100_3) U ?_
     refine AWl.p (by exact R_load U (by exact .yes1 U U U U) U (.tmp U (by exact id)) ty3 U U) U ?_
     refine AWl.p (R_callz (FnT.fr (implwithin _ _ _)) U (by exact .yes1 U U U U) U (.cons (.tmp U (by exact id)) U (.cons (.const U) U (.cons (.const U) U .nil)))) U ?_
     refine AWl.p (R_and U (.no U) U (.tm U) (.tmp U (by exact id))) U ?_
     refine AWl.av ?_
     refine AWl.nil (AW.ret ?_)
     refine Res.v U U ?_
     congr 1; unfold tokOk arity zerT; simp only [*]; simp <;> (repeat' split) <;> simp_all <;> grind
   · skip
     try simp at h20
     refine AW.seq ?_
     refine AW.sr ?_
     refine AWl.p (R_eq U (.no U) U (.tm U) (.const U)) U ?_
     refine AWl.av ?_
     refine AWl.nil ?_
     refine AW.cond (.tm U) (fun h37 => ?_) (fun h37 => ?_)
     · skip
       try simp at h37
       refine AW.skip ?_
       refine AW.cond (.tm U) (fun h37 => ?_) (fun h37 => ?_)
       · skip
         try simp at h37
         refine AW.seq ?_
         refine AW.le (σ' := ⟨_, [(0, _), (1, _), (2, _), (4, _), (37, _)], []⟩) (Le.sub0 U ⟨U, U, U, U, U, Y⟩ trivial) ?_
         refine AW.region ?_
         refine AWl.p (by exact R_load U (.no U) U (.tm U) ty100 U U) U ?_
         refine AWl.p (by exact R_fieldAddr U (.no U) U (.tm U) fl100_0) U ?_
         refine AWl.p (by exact R_load U (.no U) U (.tm U) ty3 U U) U ?_
         refine AWl.p (R_build (ps := [(0, .tmp 45)]) U U U in100 U U st100 (.cons (.tm U) U U fp100_0 .nil) U) U ?_
         refine AWl.p (R_eqs U (.no U) U (.tm U) (.tm U) U U (by kernel_rfl) (eqS100 _ _ _ _ _ _ _ _)) U ?_
         refine AWl.av ?_
         refine AWl.nil (AW.ret ?_)
         refine Res.v U U ?_
         congr 1; unfold tokOk arity zerT; simp only [*]; simp <;> (repeat' split) <;> simp_all <;> grind
       · exfalso; (try simp at h37); first | contradiction | omega | simp_all | grind
     · skip
       try simp at h37
       refine AW.seq ?_
       refine AW.le (σ' := ⟨_, [(0, _), (1, _), (2, _), (4, _), (37, _)], []⟩) (Le.sub0 U ⟨U, U, U, U, U, Y⟩ trivial) ?_
       refine AW.region ?_
       refine AWl.p (R_eq U (.no U) U (.tm U) (.const U)) U ?_
       refine AWl.av ?_
       refine AWl.nil ?_
       refine AW.cond (.tm U) (fun h37 => ?_) (fun h37 => ?_)
       · skip
         try simp at h37
         refine AW.skip ?_
         refine AW.cond (.tm U) (fun h37 => ?_) (fun h37 => ?_)
         · skip
           try simp at h37
           refine AW.sr ?_
           refine AWl.p (by exact R_load U (.no U) U (.tm U) ty100 U U) U ?_
           refine AWl.p (by exact R_fieldAddr U (.no U) U (.tm U) fl100_0) U ?_
           refine AWl.p (by exact R_load U (.no U) U (.tm U) ty3 U U) U ?_
           refine AWl.p (R_build (ps := [(0, .tmp 45)]) U U U in100 U U st100 (.cons (.tm U) U U fp100_0 .nil) U) U ?_
           refine AWl.p (R_eqs U (.no U) U (.tm U) (.tm U) U U (by kernel_rfl) (eqS100 _ _ _ _ _ _ _ _)) U ?_
           refine AWl.av ?_
           refine AWl.nil (AW.ret ?_)
           refine Res.v U U ?_
           congr 1; unfold tokOk arity zerT; simp only [*]; simp <;> (repeat' split) <;> simp_all <;> grind
         · exfalso; (try simp at h37); first | contradiction | omega | simp_all | grind
       · skip
         try simp at h37
         refine AW.sr ?_
         refine AWl.p (R_eq U (.no U) U (.tm U) (.const U)) U ?_
         refine AWl.av ?_
         refine AWl.nil ?_
         refine AW.cond (.tm U) (fun h37 => ?_) (fun h37 => ?_)
         · skip
           try simp at h37
           refine AW.skip ?_
           refine AW.cond (.tm U) (fun h37 => ?_) (fun h37 => ?_)
           · skip
             try simp at h37
             refine AW.sr ?_
             refine AWl.p (by exact R_load U (.no U) U (.tm U) ty100 U U) U ?_
             refine AWl.p (by exact R_fieldAddr U (.no U) U (.tm U) fl100_0) U ?_
             refine AWl.p (by exact R_load U (.no U) U (.tm U) ty3 U U) U ?_
             refine AWl.p (R_build (ps := [(0, .tmp 45)]) U U U in100 U U st100 (.cons (.tm U) U U fp100_0 .nil) U) U ?_
             refine AWl.p (R_eqs U (.no U) U (.tm U) (.tm U) U U (by kernel_rfl) (eqS100 _ _ _ _ _ _ _ _)) U ?_
             refine AWl.av ?_
             refine AWl.nil (AW.ret ?_)
             refine Res.v U U ?_
             congr 1; unfold tokOk arity zerT; simp only [*]; simp <;> (repeat' split) <;> simp_all <;> grind
           · exfalso; (try simp at h37); first | contradiction | omega | simp_all | grind
         · skip
           try simp at h37
           refine AW.sr ?_
           refine AWl.p (R_eq U (.no U) U (.tm U) (.const U)) U ?_
           refine AWl.av ?_
           refine AWl.nil ?_
           refine AW.cond (.tm U) (fun h37 => ?_) (fun h37 => ?_)
           · skip
             try simp at h37
             refine AW.skip ?_
             refine AW.cond (.tm U) (fun h37 => ?_) (fun h37 => ?_)
             · skip
               try simp at h37
               refine AW.sr ?_
               refine AWl.p (by exact R_load U (.no U) U (.tm U) ty100 U U) U ?_
               refine AWl.p (by exact R_fieldAddr U (.no U) U (.tm U) fl100_0) U ?_
               refine AWl.p (by exact R_load U (.no U) U (.tm U) ty3 U U) U ?_
               refine AWl.p (R_build (ps := [(0, .tmp 45)]) U U U in100 U U st100 (.cons (.tm U) U U fp100_0 .nil) U) U ?_
               refine AWl.p (R_eqs U (.no U) U (.tm U) (.tm U) U U (by kernel_rfl) (eqS100 _ _ _ _ _ _ _ _)) U ?_
               refine AWl.av ?_
               refine AWl.nil (AW.ret ?_)
               refine Res.v U U ?_
               congr 1; unfold tokOk arity zerT; simp only [*]; simp <;> (repeat' split) <;> simp_all <;> grind
             · exfalso; (try simp at h37); first | contradiction | omega | simp_all | grind
           · skip
             try simp at h37
             refine AW.region ?_
             refine AWl.p (R_eq U (.no U) U (.tm U) (.const U)) U ?_
             refine AWl.av ?_
             refine AWl.nil ?_
             refine AW.cond (.tm U) (fun h37 => ?_) (fun h37 => ?_)
             · skip
               try simp at h37
               refine AW.sr ?_
               refine AWl.p (by exact R_load U (.no U) U (.tm U) ty100 U U) U ?_
               refine AWl.p (by exact R_fieldAddr U (.no U) U (.tm U) fl100_0) U ?_
               refine AWl.p (by exact R_load U (.no U) U (.tm U) ty3 U U) U ?_
               refine AWl.p (R_build (ps := [(0, .tmp 45)]) U U U in100 U U st100 (.cons (.tm U) U U fp100_0 .nil) U) U ?_
               refine AWl.p (R_eqs U (.no U) U (.tm U) (.tm U) U U (by kernel_rfl) (eqS100 _ _ _ _ _ _ _ _)) U ?_
               refine AWl.av ?_
               refine AWl.nil (AW.ret ?_)
               refine Res.v U U ?_
               congr 1; unfold tokOk arity zerT; simp only [*]; simp <;> (repeat' split) <;> simp_all <;> grind
             · skip
               try simp at h37
               refine AW.skip ?_
               refine AW.sr ?_
               refine AWl.ac ?_
               refine AWl.nil (AW.ret ?_)
               refine Res.v U U ?_
               congr 1; unfold tokOk arity zerT; simp only [*]; simp <;> (repeat' split) <;> simp_all <;> grind
theorem specIsExpr (e : TExpr) (hz : e.Tokens.length ≤ 1048576) : FnT Tryz.prog 79 [.agg (cExpr e)] (.a (.one (.v (.bool (isExpr e.Tokens))))) := by
 refine FnT.walk Tryz.func79 U (by kernel_rfl) Tryz.ntmps79 U fun hlen w0 => ?_
 try simp [cPair, cToken, cExpr, cEdge, cGraph] at hlen
 refine AW.sr ?_
 refine AWl.p (R_boxz U U U (.tm U) (ts := _) (by rfl)) U ?_
 refine AWl.ac ?_
 refine AWl.nil (AW.sr ?_)
 refine AWl.ac ?_
 refine AWl.nil (AW.seq ?_)
 refine AW.sr ?_
 refine AWl.ac ?_
 refine AWl.nil (AW.block ?_)
 refine AW.loop2 (fun (k : Nat) (d : Int) => (k ≤ e.Tokens.length ∧ 0 ≤ d ∧ d ≤ k) ∧ isExpr e.Tokens = depthGo d (e.Tokens.drop k)) (fun (k : Nat) (d : Int) => ⟨_, [(4, (true, .a (.one (.t (.v (.int .i64 (k : Nat))))))), (3, (true, .a (.one (.t (.v (.int .i64 d)))))), (1, _)], []⟩) (fun (k : Nat) (d : Int) => e.Tokens.length - k) (0) (0) ⟨by simp, U⟩ (Le.sub0 U ⟨U, U, U, Y⟩ trivial) ?_
 rintro k d ⟨hk, he⟩
 refine AW.seq ?_
 refine AW.sr ?_
 refine AWl.mv ?_
 refine AWl.p (by exact R_fieldAddr U (.no U) U (.tm U) fl30_0) U ?_
 refine AWl.p (by exact R_load U (.no U) U (.tm U) ty28 U U) U ?_
 refine AWl.p (by exact R_lenm U (.no U) U (.tm U) (by exact .t) Tryz.underlying28) U ?_
 refine AWl.p (R_lt U (.no U) U (.tm U) (.tm U)) U ?_
 refine AWl.nil ?_
 refine AW.cond (.tm U) (fun hlt => ?_) (fun hlt => ?_)
 · skip
   try simp at hlt
   obtain ⟨t, hx⟩ : ∃ t, e.Tokens[k]? = some t := ⟨_, List.getElem?_eq_getElem (by omega)⟩
   rw [depthGo_drop hx] at he
   have ha := arity_le t
   refine AW.skip ?_
   refine AW.seq ?_
   refine AW.block ?_
   refine AW.sr ?_
   refine AWl.p (by exact R_fieldAddr U (.no U) U (.tm U) fl30_0) U ?_
   refine AWl.p (by exact R_load U (.no U) U (.tm U) ty28 U U) U ?_
   refine AWl.mv ?_
   refine AWl.p ((by exact R_indexAddr U (.no U) U (.tm U) (.tm U) Tryz.underlying28 ty100 (fun _ => ⟨by omega, (by exact map_get (by assumption))⟩))) U ?_
   refine AWl.p (by exact R_load U (.no U) U (.tm U) ty100 U U) U ?_
   refine AWl.p (R_callz (FnT.fr (specl8Arity _)) U (.no U) U (.cons (.tm U) U .nil)) U ?_
   refine AWl.av ?_
   refine AWl.nil (AW.seq ?_)
   refine AW.seq ?_
   refine AW.le (σ' := ⟨_, [(1, _), (3, _), (4, _), (5, _)], []⟩) (Le.sub0 U ⟨U, U, U, U, Y⟩ trivial) ?_
   refine AW.region ?_
   refine AWl.mv ?_
   refine AWl.p (R_lt U (.no U) U (.tm U) (.const U)) U ?_
   refine AWl.mv ?_
   refine AWl.p (R_move U (by exact .not1 U U U U) U (.tmp U (by exact fun _ => rfl))) U ?_
   refine AWl.p (R_move U (by exact .not1 U U U U) U (.tmp U (by exact fun _ => rfl))) U ?_
   refine AWl.p (R_gt U (by exact .not1 U U U U) U (.tmp U (by exact id)) (.tmp U (by exact id))) U ?_
   refine AWl.p (R_or U (.no U) U (.tm U) (.tmp U (by exact id))) U ?_
   refine AWl.nil ?_
   refine AW.cond (.tm U) (fun h25 => ?_) (fun h25 => ?_)
   · skip
     try simp at h25
     refine AW.seq ?_
     refine AW.le (σ' := ⟨_, [(1, _), (3, _), (4, _), (5, _)], []⟩) (Le.sub0 U ⟨U, U, U, U, Y⟩ trivial) ?_
     refine AW.region ?_
     refine AWl.ac ?_
     refine AWl.nil (AW.ret ?_)
     refine Res.v U U ?_
     rw [he, if_pos (by omega)]
   · skip
     try simp at h25
     refine AW.skip ?_
     refine AW.le (σ' := ⟨_, [(1, _), (3, _), (4, _), (5, _)], []⟩) (Le.sub0 U ⟨U, U, U, U, Y⟩ trivial) ?_
     refine AW.region ?_
     refine AWl.mv ?_
     refine AWl.mv ?_
     refine AWl.p (R_sub U (.no U) U (.tm U) (.tm U) (fun _ => by omega)) U ?_
     refine AWl.p (R_add U (.no U) U (.tm U) (.const U) (fun _ => by omega)) U ?_
     refine AWl.av ?_
     refine AWl.nil (AW.region ?_)
     refine AWl.mv ?_
     refine AWl.p (R_add U (.no U) U (.tm U) (.const U) (fun _ => by omega)) U ?_
     refine AWl.av ?_
     refine AWl.nil ?_
     repeat (with_reducible refine BlockQ.nor ?_)
     refine Round2.next (k + 1) (d - arity t + 1) ⟨by omega, by rw [he, if_neg (by omega)]⟩ (by omega) (Le.sub0 rfl ⟨rfl, rfl, rfl, Y⟩ trivial)
 · skip
   try simp at hlt
   refine AW.exit ?_
   refine AW.sr ?_
   refine AWl.mv ?_
   refine AWl.p (R_eq U (.no U) U (.tm U) (.const U)) U ?_
   refine AWl.av ?_
   refine AWl.nil (AW.ret ?_)
   refine Res.v U U ?_
   rw [he, List.drop_eq_nil_of_le (show e.Tokens.length ≤ k by omega)]; rfl
end Go.Proofs.YtbkhopfpejhnlaaGreat
