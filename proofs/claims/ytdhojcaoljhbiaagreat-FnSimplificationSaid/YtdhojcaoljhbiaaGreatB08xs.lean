import Derived.Test.YtdhojcaoljhbiaaGreatBExs
import Derived.Test.YtdhojcaoljhbiaaGreatAbsIxs
set_option linter.unusedVariables false
set_option linter.unusedSimpArgs false
set_option maxHeartbeats 1000000
set_option maxRecDepth 100000
namespace Go.Q
open Go.D
def zerT (t:TToken):Bool:=decide (t.Letter=0)&&decide (t.Low=0)&&decide (t.High=0)
def arity (t:TToken):Int:=
 if t.Kind=1∨t.Kind=2 then (if zerT t then 0 else -1)
 else if t.Kind=3 then (if inB t.Letter 0 8&&decide (t.Low=0)&&decide (t.High=0) then 0 else -1)
 else if t.Kind=4∨t.Kind=5 then (if zerT t then 2 else -1)
 else if t.Kind=6 then (if zerT t then 1 else -1)
 else if t.Kind=7 then (if decide (t.Letter=0)&&inB t.High 1 3&&inB t.Low 0 t.High then 1 else -1)
 else -1
def tokOk (t:TToken):Bool:=decide (0≤arity t)
def depthGo:Int→List TToken→Bool
 | d,[]=>decide (d=1)
 | d,t::r=>if arity t<0∨d<arity t then false else depthGo (d-arity t+1) r
def isExpr (l:List TToken):Bool:=depthGo 0 l
theorem depthGo_drop {l:List TToken} {k:Nat} {t:TToken} {d:Int} (h:l[k]?=some t):depthGo d (l.drop k)=if arity t<0∨d<arity t then false else depthGo (d-arity t+1) (l.drop (k+1)):=by
 rw [drop_at h,depthGo]
theorem arity_le (t:TToken):-1≤arity t∧arity t≤2:=by
 unfold arity
 repeat' split
 all_goals omega
end Go.Q
namespace Go.Proofs.YtdhojcaoljhbiaaGreat
open Go.RowKit Go.Q Go.D
theorem specl8Arity (t:TToken):FnT Tryz.prog 91 [.agg (cToken t)] (.a (.one (.v (.int .i64 (arity t))))):=by
 refine A6 Tryz.func91 U (by kernel_rfl) Tryz.ntmps91 U fun hlen w0=>?_
 try simp [cToken,cExpr] at hlen
 refine Af (Ac (Bo U U U (.tm U) (ts:=_) (by rfl)) U ?_);refine AWl.ac ?_;refine Aa (Ae (Af (A8 Co ?_)));refine Ak ty3 ?_;refine Aa (AW.block (Ae (Af (Ba ?_))));refine Ag ?_;refine Aa (Ah (.tm U) (fun h5=>?_) (fun h5=>?_))
 · try simp at h5
   refine AW.skip (Ah (.tm U) (fun h5=>?_) (fun h5=>?_))
   · try simp at h5
     refine Ae (Af (A8 fl71_1 ?_));refine Ak ty3 ?_;refine AWl.nc ?_;refine Ab ?_;refine Cy Db ?_;refine Cx ty3 ?_;refine Ac (R_ne U (by exact .not1 U U U U) U (.tmp U (by exact id)) (.const U)) U ?_;refine Cj ?_;refine Ab ?_;refine Cy Dn ?_;refine Cx ty3 ?_;refine Ac (R_ne U (by exact .not1 U U U U) U (.tmp U (by exact id)) (.const U)) U ?_;refine Cj ?_;refine Aa (Ah (.tm U) (fun h20=>?_) (fun h20=>?_))
     · try simp at h20
       refine Ae (Al (Ap [0,1,2,4,5] []) ?_);refine Ad (AWl.ac ?_);refine Aa (Ai (Bb U U ?_))
       unfold arity zerT;grind
     try simp at h20
     refine AW.skip (Ae (Al (Ap [0,1,2,4,5] []) ?_));refine Ad (AWl.ac ?_);refine Aa (Ai (Bb U U ?_))
     unfold arity zerT;grind
   exfalso;(try simp at h5);first|contradiction|omega|simp_all|grind
 try simp at h5
 refine Ad (Ba ?_);refine Ag ?_;refine Aa (Ah (.tm U) (fun h5=>?_) (fun h5=>?_))
 · try simp at h5
   refine Ae (Af (A8 fl71_1 ?_));refine Ak ty3 ?_;refine AWl.nc ?_;refine Ab ?_;refine Cy Db ?_;refine Cx ty3 ?_;refine Ac (R_ne U (by exact .not1 U U U U) U (.tmp U (by exact id)) (.const U)) U ?_;refine Cj ?_;refine Ab ?_;refine Cy Dn ?_;refine Cx ty3 ?_;refine Ac (R_ne U (by exact .not1 U U U U) U (.tmp U (by exact id)) (.const U)) U ?_;refine Cj ?_;refine Aa (Ah (.tm U) (fun h20=>?_) (fun h20=>?_))
   · try simp at h20
     refine Ae (Al (Ap [0,1,2,4,5] []) ?_);refine Ad (AWl.ac ?_);refine Aa (Ai (Bb U U ?_))
     unfold arity zerT;grind
   try simp at h20
   refine AW.skip (Ae (Al (Ap [0,1,2,4,5] []) ?_));refine Ad (AWl.ac ?_);refine Aa (Ai (Bb U U ?_))
   unfold arity zerT;grind
 try simp at h5
 refine Af (Ba ?_);refine Ag ?_;refine Aa (Ah (.tm U) (fun h21=>?_) (fun h21=>?_))
 · try simp at h21
   refine Ae (Af (A8 fl71_1 ?_));refine Ak ty3 ?_;refine Bu (specl2Letter _) ?_;refine Cw ?_;refine Ab ?_;refine Cy Db ?_;refine Cx ty3 ?_;refine Ac (R_ne U (by exact .not1 U U U U) U (.tmp U (by exact id)) (.const U)) U ?_;refine Cj ?_;refine Ab ?_;refine Cy Dn ?_;refine Cx ty3 ?_;refine Ac (R_ne U (by exact .not1 U U U U) U (.tmp U (by exact id)) (.const U)) U ?_;refine Cj ?_;refine Aa (Ah (.tm U) (fun h36=>?_) (fun h36=>?_))
   · try simp at h36
     refine Ae (Al (Ap [0,1,2,4,5] []) ?_);refine Ad (AWl.ac ?_);refine Aa (Ai (Bb U U ?_))
     unfold arity zerT;grind
   try simp at h36
   refine AW.skip (Ae (Al (Ap [0,1,2,4,5] []) ?_));refine Ad (AWl.ac ?_);refine Aa (Ai (Bb U U ?_))
   unfold arity zerT;grind
 try simp at h21
 refine Ae (Af (Ba ?_));refine Ag ?_;refine Aa (Ah (.tm U) (fun h37=>?_) (fun h37=>?_))
 · try simp at h37
   refine AW.skip (Ah (.tm U) (fun h37=>?_) (fun h37=>?_))
   · try simp at h37
     refine Ae (Ae (Al (Ap [0,1,2,4,5,37] []) ?_));refine Ad (A8 fl71_1 ?_);refine Ak ty3 ?_;refine AWl.nc ?_;refine Ab ?_;refine Cy Db ?_;refine Cx ty3 ?_;refine Ac (R_ne U (by exact .not1 U U U U) U (.tmp U (by exact id)) (.const U)) U ?_;refine Cj ?_;refine Ab ?_;refine Cy Dn ?_;refine Cx ty3 ?_;refine Ac (R_ne U (by exact .not1 U U U U) U (.tmp U (by exact id)) (.const U)) U ?_;refine Cj ?_;refine Aa (Ah (.tm U) (fun h52=>?_) (fun h52=>?_))
     · try simp at h52
       refine Ae (Al (Ap [0,1,2,4,5,37] []) ?_);refine Ad (AWl.ac ?_);refine Aa (Ai (Bb U U ?_))
       unfold arity zerT;grind
     try simp at h52
     refine AW.skip (Ae (Al (Ap [0,1,2,4,5,37] []) ?_));refine Ad (AWl.ac ?_);refine Aa (Ai (Bb U U ?_))
     unfold arity zerT;grind
   exfalso;(try simp at h37);first|contradiction|omega|simp_all|grind
 try simp at h37
 refine Al (Ap [0,1,2,4,5,37] []) ?_;refine Ad (Ba ?_);refine Ag ?_;refine Aa (Ah (.tm U) (fun h37=>?_) (fun h37=>?_))
 · try simp at h37
   refine Ae (Af (A8 fl71_1 ?_));refine Ak ty3 ?_;refine AWl.nc ?_;refine Ab ?_;refine Cy Db ?_;refine Cx ty3 ?_;refine Ac (R_ne U (by exact .not1 U U U U) U (.tmp U (by exact id)) (.const U)) U ?_;refine Cj ?_;refine Ab ?_;refine Cy Dn ?_;refine Cx ty3 ?_;refine Ac (R_ne U (by exact .not1 U U U U) U (.tmp U (by exact id)) (.const U)) U ?_;refine Cj ?_;refine Aa (Ah (.tm U) (fun h52=>?_) (fun h52=>?_))
   · try simp at h52
     refine Ae (Al (Ap [0,1,2,4,5,37] []) ?_);refine Ad (AWl.ac ?_);refine Aa (Ai (Bb U U ?_))
     unfold arity zerT;grind
   try simp at h52
   refine AW.skip (Ae (Al (Ap [0,1,2,4,5,37] []) ?_));refine Ad (AWl.ac ?_);refine Aa (Ai (Bb U U ?_))
   unfold arity zerT;grind
 try simp at h37
 refine Af (Ba ?_);refine Ag ?_;refine Aa (Ah (.tm U) (fun h53=>?_) (fun h53=>?_))
 · try simp at h53
   refine Ae (Af (A8 fl71_1 ?_));refine Ak ty3 ?_;refine AWl.nc ?_;refine Ab ?_;refine Cy Db ?_;refine Cx ty3 ?_;refine Ac (R_ne U (by exact .not1 U U U U) U (.tmp U (by exact id)) (.const U)) U ?_;refine Cj ?_;refine Ab ?_;refine Cy Dn ?_;refine Cx ty3 ?_;refine Ac (R_ne U (by exact .not1 U U U U) U (.tmp U (by exact id)) (.const U)) U ?_;refine Cj ?_;refine Aa (Ah (.tm U) (fun h67=>?_) (fun h67=>?_))
   · try simp at h67
     refine Ae (Al (Ap [0,1,2,4,5,37] []) ?_);refine Ad (AWl.ac ?_);refine Aa (Ai (Bb U U ?_))
     unfold arity zerT;grind
   try simp at h67
   refine AW.skip (Ae (Al (Ap [0,1,2,4,5,37] []) ?_));refine Ad (AWl.ac ?_);refine Aa (Ai (Bb U U ?_))
   unfold arity zerT;grind
 try simp at h53
 refine Af (Ba ?_);refine Ag ?_;refine Aa (Ah (.tm U) (fun h68=>?_) (fun h68=>?_))
 · try simp at h68
   refine Ae (Af (A8 fl71_1 ?_));refine Ak ty3 ?_;refine AWl.nc ?_;refine Ab ?_;refine Cy Dn ?_;refine Cx ty3 ?_;refine Ac (Aw (FnT.fr (specl1In _ _ _)) U (by exact .not1 U U U U) U (.cons (.tmp U (by exact id)) U (.cons (.const U) U (.cons (.const U) U .nil)))) U ?_;refine Ac (R_not U (by exact .not1 U U U U) U (.tmp U (by exact id))) U ?_;refine Cj ?_;refine Ab ?_;refine Cy Db ?_;refine Cx ty3 ?_;refine Cy Dn ?_;refine Cx ty3 ?_;refine Ac (Aw (FnT.fr (specl1In _ _ _)) U (by exact .not1 U U U U) U (.cons (.tmp U (by exact id)) U (.cons (.const U) U (.cons (.tmp U (by exact id)) U .nil)))) U ?_;refine Ac (R_not U (by exact .not1 U U U U) U (.tmp U (by exact id))) U ?_;refine Cj ?_;refine Aa (Ah (.tm U) (fun h86=>?_) (fun h86=>?_))
   · try simp at h86
     refine Ae (Al (Ap [0,1,2,4,5,37] []) ?_);refine Ad (AWl.ac ?_);refine Aa (Ai (Bb U U ?_))
     unfold arity zerT;grind
   try simp at h86
   refine AW.skip (Ae (Al (Ap [0,1,2,4,5,37] []) ?_));refine Ad (AWl.ac ?_);refine Aa (Ai (Bb U U ?_))
   unfold arity zerT;grind
 try simp at h68
 refine AW.skip (Af (AWl.ac ?_));refine Aa (Ai (Bb U U ?_))
 unfold arity zerT;grind
theorem impltokenOk (t:TToken):FnT Tryz.prog 77 [.agg (cToken t)] (.a (.one (.v (.bool (tokOk t))))):=by
 refine A6 Tryz.func77 U (by kernel_rfl) Tryz.ntmps77 U fun hlen w0=>?_
 try simp [cToken,cExpr] at hlen
 refine Af (Ac (Bo U U U (.tm U) (ts:=_) (by rfl)) U ?_);refine AWl.ac ?_;refine Aa (Ae (Af (A8 Co ?_)));refine Ak ty3 ?_;refine Aa (AW.block (Af (Ba ?_)));refine Ag ?_;refine Aa (Ah (.tm U) (fun h5=>?_) (fun h5=>?_))
 · try simp at h5
   refine Af (A8 fl71_1 ?_);refine Ak ty3 ?_;refine Bu (implisLetter _) ?_;refine Ab ?_;refine AWl.fy Db ?_;refine Cu ty3 ?_;refine Ac (R_eq U (by exact .yes1 U U U U) U (.tmp U (by exact id)) (.const U)) U ?_;refine Cb ?_;refine Ab ?_;refine AWl.fy Dn ?_;refine Cu ty3 ?_;refine Ac (R_eq U (by exact .yes1 U U U U) U (.tmp U (by exact id)) (.const U)) U ?_;refine Cb ?_;refine Ag ?_;refine Aa (Ai (Bb U U ?_))
   congr 1;unfold tokOk arity zerT;simp only [*];simp<;>(repeat' split)<;>simp_all<;>grind
 try simp at h5
 refine Af (Ba ?_);refine Ag ?_;refine Aa (Ah (.tm U) (fun h20=>?_) (fun h20=>?_))
 · try simp at h20
   refine Af (A8 fl71_1 ?_);refine Ak ty3 ?_;refine Ba ?_;refine Ab ?_;refine AWl.fy Db ?_;refine Cu ty3 ?_;refine AWl.fy Dn ?_;refine Cu ty3 ?_;refine Ac (Aw (FnT.fr (implwithin _ _ _)) U (by exact .yes1 U U U U) U (.cons (.tmp U (by exact id)) U (.cons (.const U) U (.cons (.tmp U (by exact id)) U .nil)))) U ?_;refine Cb ?_;refine Ab ?_;refine AWl.fy Dn ?_;refine Cu ty3 ?_;refine Ac (Aw (FnT.fr (implwithin _ _ _)) U (by exact .yes1 U U U U) U (.cons (.tmp U (by exact id)) U (.cons (.const U) U (.cons (.const U) U .nil)))) U ?_;refine Cb ?_;refine Ag ?_;refine Aa (Ai (Bb U U ?_))
   congr 1;unfold tokOk arity zerT;simp only [*];simp<;>(repeat' split)<;>simp_all<;>grind
 try simp at h20
 refine Ae (Af (Ba ?_));refine Ag ?_;refine Aa (Ah (.tm U) (fun h37=>?_) (fun h37=>?_))
 · try simp at h37
   refine AW.skip (Ah (.tm U) (fun h37=>?_) (fun h37=>?_))
   · try simp at h37
     refine Ae (Al (Ap [0,1,2,4,37] []) ?_);refine Ad (Ak Bv ?_);refine A8 Co ?_;refine Ak ty3 ?_;refine Ac (A9 (ps:=[(0,.tmp 45)]) U U U Ci U U Da (.cons (.tm U) U U Cg .nil) U) U ?_;refine Ac (R_eqs U (.no U) U (.tm U) (.tm U) U U (by kernel_rfl) (eqS71 _ _ _ _ _ _ _ _)) U ?_;refine Ag ?_;refine Aa (Ai (Bb U U ?_))
     congr 1;unfold tokOk arity zerT;simp only [*];simp<;>(repeat' split)<;>simp_all<;>grind
   exfalso;(try simp at h37);first|contradiction|omega|simp_all|grind
 try simp at h37
 refine Ae (Al (Ap [0,1,2,4,37] []) ?_);refine Ad (Ba ?_);refine Ag ?_;refine Aa (Ah (.tm U) (fun h37=>?_) (fun h37=>?_))
 · try simp at h37
   refine AW.skip (Ah (.tm U) (fun h37=>?_) (fun h37=>?_))
   · try simp at h37
     refine Af (Ak Bv ?_);refine A8 Co ?_;refine Ak ty3 ?_;refine Ac (A9 (ps:=[(0,.tmp 45)]) U U U Ci U U Da (.cons (.tm U) U U Cg .nil) U) U ?_;refine Ac (R_eqs U (.no U) U (.tm U) (.tm U) U U (by kernel_rfl) (eqS71 _ _ _ _ _ _ _ _)) U ?_;refine Ag ?_;refine Aa (Ai (Bb U U ?_))
     congr 1;unfold tokOk arity zerT;simp only [*];simp<;>(repeat' split)<;>simp_all<;>grind
   exfalso;(try simp at h37);first|contradiction|omega|simp_all|grind
 try simp at h37
 refine Af (Ba ?_);refine Ag ?_;refine Aa (Ah (.tm U) (fun h37=>?_) (fun h37=>?_))
 · try simp at h37
   refine AW.skip (Ah (.tm U) (fun h37=>?_) (fun h37=>?_))
   · try simp at h37
     refine Af (Ak Bv ?_);refine A8 Co ?_;refine Ak ty3 ?_;refine Ac (A9 (ps:=[(0,.tmp 45)]) U U U Ci U U Da (.cons (.tm U) U U Cg .nil) U) U ?_;refine Ac (R_eqs U (.no U) U (.tm U) (.tm U) U U (by kernel_rfl) (eqS71 _ _ _ _ _ _ _ _)) U ?_;refine Ag ?_;refine Aa (Ai (Bb U U ?_))
     congr 1;unfold tokOk arity zerT;simp only [*];simp<;>(repeat' split)<;>simp_all<;>grind
   exfalso;(try simp at h37);first|contradiction|omega|simp_all|grind
 try simp at h37
 refine Af (Ba ?_);refine Ag ?_;refine Aa (Ah (.tm U) (fun h37=>?_) (fun h37=>?_))
 · try simp at h37
   refine AW.skip (Ah (.tm U) (fun h37=>?_) (fun h37=>?_))
   · try simp at h37
     refine Af (Ak Bv ?_);refine A8 Co ?_;refine Ak ty3 ?_;refine Ac (A9 (ps:=[(0,.tmp 45)]) U U U Ci U U Da (.cons (.tm U) U U Cg .nil) U) U ?_;refine Ac (R_eqs U (.no U) U (.tm U) (.tm U) U U (by kernel_rfl) (eqS71 _ _ _ _ _ _ _ _)) U ?_;refine Ag ?_;refine Aa (Ai (Bb U U ?_))
     congr 1;unfold tokOk arity zerT;simp only [*];simp<;>(repeat' split)<;>simp_all<;>grind
   exfalso;(try simp at h37);first|contradiction|omega|simp_all|grind
 try simp at h37
 refine Ad (Ba ?_);refine Ag ?_;refine Aa (Ah (.tm U) (fun h37=>?_) (fun h37=>?_))
 · try simp at h37
   refine Af (Ak Bv ?_);refine A8 Co ?_;refine Ak ty3 ?_;refine Ac (A9 (ps:=[(0,.tmp 45)]) U U U Ci U U Da (.cons (.tm U) U U Cg .nil) U) U ?_;refine Ac (R_eqs U (.no U) U (.tm U) (.tm U) U U (by kernel_rfl) (eqS71 _ _ _ _ _ _ _ _)) U ?_;refine Ag ?_;refine Aa (Ai (Bb U U ?_))
   congr 1;unfold tokOk arity zerT;simp only [*];simp<;>(repeat' split)<;>simp_all<;>grind
 try simp at h37
 refine AW.skip (Af (AWl.ac ?_));refine Aa (Ai (Bb U U ?_))
 congr 1;unfold tokOk arity zerT;simp only [*];simp<;>(repeat' split)<;>simp_all<;>grind
theorem specIsExpr (e:TExpr) (hz:e.Tokens.length≤1048576):FnT Tryz.prog 85 [.agg (cExpr e)] (.a (.one (.v (.bool (isExpr e.Tokens))))):=by
 refine A6 Tryz.func85 U (by kernel_rfl) Tryz.ntmps85 U fun hlen w0=>?_
 try simp [cToken,cExpr] at hlen
 refine Af (Ac (Bo U U U (.tm U) (ts:=_) (by rfl)) U ?_);refine AWl.ac ?_;refine Aa (Af (AWl.ac ?_));refine Aa (Ae (Af (AWl.ac ?_)));refine Aa (AW.block (C6 (fun (k:Nat) (d:Int)=>(k≤e.Tokens.length∧0≤d∧d≤k)∧isExpr e.Tokens=depthGo d (e.Tokens.drop k)) (fun (k:Nat) (d:Int)=>⟨_,[(4,(true,.a (.one (.t (.v (.int .i64 (k:Nat))))))),(3,(true,.a (.one (.t (.v (.int .i64 d)))))),(1,_)],[]⟩) (fun (k:Nat) (d:Int)=>e.Tokens.length-k) (0) (0) ⟨by simp,U⟩ (Az U ⟨U,U,U,Y⟩ trivial) ?_))
 rintro k d ⟨hk,he⟩
 refine Ae (Af (Ab ?_));refine A8 Be ?_;refine Ak Cd ?_;refine Br (.t) Tryz.underlying24 ?_;refine AWl.lt ?_;refine Aa (Ah (.tm U) (fun hlt=>?_) (fun hlt=>?_))
 · try simp at hlt
   obtain⟨t,hx⟩:∃ t,e.Tokens[k]?=some t:=⟨_,List.getElem?_eq_getElem (by omega)⟩
   rw [depthGo_drop hx] at he
   have ha:=arity_le t
   refine AW.skip (Ae (AW.block (Af (A8 Be ?_))));refine Ak Cd ?_;refine Ab ?_;refine Ac ((An U (.no U) U (.tm U) (.tm U) Tryz.underlying24 Bv (fun _=>⟨by omega,(by exact Am (by assumption))⟩))) U ?_;refine Ak Bv ?_;refine Bu (specl8Arity _) ?_;refine Ag ?_;refine Aa (Ae (Ae (Al (Ap [1,3,4,5] []) ?_)));refine Ad (Ab ?_);refine Cv ?_;refine Ab ?_;refine AWl.mw ?_;refine AWl.mw ?_;refine Ac (R_gt U (by exact .not1 U U U U) U (.tmp U (by exact id)) (.tmp U (by exact id))) U ?_;refine Cj ?_;refine Aa (Ah (.tm U) (fun h25=>?_) (fun h25=>?_))
   · try simp at h25
     refine Ae (Al (Ap [1,3,4,5] []) ?_);refine Ad (AWl.ac ?_);refine Aa (Ai (Bb U U ?_))
     rw [he,if_pos (by omega)]
   try simp at h25
   refine AW.skip (Al (Ap [1,3,4,5] []) ?_);refine Ad (Ab ?_);refine Ab ?_;refine Ac (R_sub U (.no U) U (.tm U) (.tm U) (fun _=>by omega)) U ?_;refine Bk ?_;refine Ag ?_;refine Aa (Ad (Ab ?_));refine Bk ?_;refine Ag ?_;refine Aa ?_
   repeat (with_reducible refine A7 ?_)
   refine Round2.next (k+1) (d-arity t+1) ⟨by omega,by rw [he,if_neg (by omega)]⟩ (by omega) (Az rfl ⟨rfl,rfl,rfl,Y⟩ trivial)
 try simp at hlt
 refine Bz (Af (Ab ?_));refine Ba ?_;refine Ag ?_;refine Aa (Ai (Bb U U ?_))
 rw [he,List.drop_eq_nil_of_le (show e.Tokens.length≤k by omega)];rfl
end Go.Proofs.YtdhojcaoljhbiaaGreat
