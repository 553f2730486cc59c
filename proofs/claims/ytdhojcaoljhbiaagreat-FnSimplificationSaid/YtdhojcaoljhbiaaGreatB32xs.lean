import Derived.Test.YtdhojcaoljhbiaaGreatB31xs
import Derived.Test.YtdhojcaoljhbiaaGreatAbsIxs
import Derived.Test.YtdhojcaoljhbiaaGreatAbsQxs
set_option linter.unusedVariables false
set_option linter.unusedSimpArgs false
set_option maxHeartbeats 1000000
set_option maxRecDepth 100000
namespace Go.Proofs.YtdhojcaoljhbiaaGreat
open Go.RowKit Go.Q Go.D
theorem specl30Repeat (a:TExpr) (lo hi:Int) (hp:0<a.Tokens.length) (hz:a.Tokens.length≤4194304):FnC Tryz.prog 90 [(true,.agg (cExpr a)),(false,.one (.v (.int .i64 lo))),(false,.one (.v (.int .i64 hi)))] (.a (.agg (cExpr ⟨repS a.Tokens lo hi⟩))):=by
 refine FnC.walk Tryz.func90 rfl (by kernel_rfl) Tryz.ntmps90 rfl (by rfl) fun w0=>?_
 refine Al (Ap [0,1,2] [1000]) ?_
 try simp [cToken,cExpr] at hlen
 refine Af (Aq (R_box 3 U U U (.tm U) U U U) U ?_);refine Aq (Au 6 U U U Ce U U U) U ?_;refine Aa (Ae (Af (A3 Ar ?_)));refine Bu (specl8Is a _) ?_;refine Ab ?_;refine Ac (Bj U (by exact .not1 U U U U) U (.tmp U (by exact fun _=>rfl)) Be) U ?_;refine Ac (Bn U (by exact .not1 U U U U) U (.tmp U (by exact id)) U Cd U U) U ?_;refine Ac (Bj U (by exact .not1 U U U U) U (.tmp U (by exact fun _=>rfl)) Be) U ?_;refine Ac (Bn U (by exact .not1 U U U U) U (.tmp U (by exact id)) U Cd U U) U ?_;refine Ac (R_lenm U (by exact .not1 U U U U) U (.tmp U (by exact id)) (by exact .rf U) Tryz.underlying24) U ?_;refine Ac (R_sub U (by exact .not1 U U U U) U (.tmp U (by exact id)) (.const U) (fun hq=>by first|omega|(simp at hq;omega))) U ?_
 refine Ac ((by exact Ay U (by exact .not1 U U U U) U (.tmp U (by exact id)) U (.tmp U (by exact id)) Tryz.underlying24 Bv (fun hq=>by (try simp at hq);exact⟨by omega,(Am (f:=cToken) (getD_at (d:=tok0 0) (by omega)))⟩))) U ?_;refine Ac (Bh U (by exact .not1 U U U U) U (.tmp U (by exact id)) Co) U ?_;refine Ac ((Bt U (by exact .not1 U U U U) U (.tmp U (by exact id)) U (Am (f:=cToken) (getD_at (d:=tok0 0) (by omega))) ty3 U U)) U ?_;refine Ac (R_eq U (by exact .not1 U U U U) U (.tmp U (by exact id)) (.const U)) U ?_;refine Cj ?_;refine Aa (Ah (.tm U) (fun h20=>?_) (fun h20=>?_))
 · skip
   skip
   refine Ae (Al (Ap [0,1,2,3,6] [1000,3,6]) ?_);refine Ad (A3 Ar ?_);refine Ao Ar ?_;refine Aa (Ai (A4 U (.cell U U Ar U U .nil) U ?_))
   unfold repS lastK;rw [if_pos h20];rfl
 skip
 skip
 refine AW.skip (Ae (Ae (Al (Ap [0,1,2,3,6] [1000,3,6]) ?_)));refine Ad (A3 Ar ?_);refine Bu (specl8Is a _) ?_;refine Aa (Ah (.tm U) (fun h23=>?_) (fun h23=>?_))
 · try simp at h23
   refine Ae (Af (Ab ?_));refine Ba ?_;refine Aa (Ah (.tm U) (fun h25=>?_) (fun h25=>?_))
   · try simp at h25
     refine Af (Bc (Bq 2600 (specl8Leaf _) U U U (.cons (.const U) U .nil) U U) U ?_);refine Ao Ar ?_;refine Aa (Ai (A4 U (.cell U U Ar U U .nil) U ?_))
     unfold repS lastK;rw [if_neg (by rw [h20];simp),if_pos h23,if_pos h25];rfl
   try simp at h25
   refine AW.skip (Af (A3 Ar ?_));refine Ao Ar ?_;refine Aa (Ai (A4 U (.cell U U Ar U U .nil) U ?_))
   unfold repS lastK;rw [if_neg (by rw [h20];simp),if_pos h23,if_neg h25];rfl
 try simp at h23
 refine AW.skip (Af (A3 Ar ?_));refine Ab ?_;refine Ab ?_;refine Bc (Bq 3100 (specRepeatExpr a lo hi (by omega)) U U U (.cons (.tm U) U (.cons (.tm U) U (.cons (.tm U) U .nil))) U U) U ?_;refine Ao Ar ?_;refine Aa (Ai (A4 U (.cell U U Ar U U .nil) U ?_))
 unfold repS lastK;rw [if_neg (by rw [h20];simp),if_neg (by simp [h23])];rfl
theorem implsimplify1 (x:Tr) (hg:good x) (hz:(toks x).length≤1048576) (ih:∀ y∈x.kids,FnT Tryz.prog 36 [.one (.ad (treeCells y))] (.a (.agg (cExpr ⟨simpT y⟩)))):FnT Tryz.prog 36 [.one (.ad (treeCells x))] (.a (.agg (cExpr ⟨simpT x⟩))):=by
 refine A6 Tryz.func36 U (by kernel_rfl) Tryz.ntmps36 U fun hlen w0=>?_
 try simp [cToken,cExpr] at hlen
 clear hlen;rw [treeCells_eq,simpT_eq];refine Af (Aq (Au 2 U U U Ce U U U) U ?_);refine Aa (Ae (Af (Ab ?_)));refine Ac (B6 U (.no U) U (.tm U)) U ?_;refine A8 Di ?_;refine A8 Co ?_;refine Ak ty3 ?_;refine Aa (AW.block (Af (Ba ?_)));refine Ag ?_;refine Aa (Ah (.tm U) (fun h9=>?_) (fun h9=>?_))
 · try simp at h9
   obtain⟨y,z,hk2,hte,hgy,hgz⟩:=kind_two' hg (by omega)
   have hi0:(x.kids.map cKid)[(0:Int).toNat]?=some (cKid y):=by rw [hk2];rfl
   have hi1:(x.kids.map cKid)[(1:Int).toNat]?=some (cKid z):=by rw [hk2];rfl
   have hkn:x.kids.length=2:=by rw [hk2];rfl
   have hsy:=simpT_len y
   have hsz:=simpT_len z
   have hln:(toks x).length=(toks y).length+(toks z).length+1:=by rw [hte];simp;omega
   refine Ae (Al (Ap [0,2,8] [2]) ?_);refine Cc 15 (nthB [[],[0],[0,1],[0,1,2],[0,1,2,3],[0,1,2,3,4],[0,1,2,3,4,5],[],[7],[7,8],[7,8,9],[7,8,9,10],[7,8,9,10,11],[0,1,2,3,4,5,6,7,8,9,10,11,12],[0,1,2,3,4,5,6,7,8,9,10,11,12,13]]) (by kernel_rfl) (by kernel_rfl) (by kernel_rfl) ?_;refine Av ?_;refine DrawC.s (fun _ hs=>(by exact B6 U (.no U) (Aj hs U) (hs.tm U))) ?_;refine Ck Dq ?_;refine Bp ty120 ?_;refine DrawC.s (fun _ hs=>(by exact An U (.no U) (Aj hs U) (hs.tm U) (.const U) Tryz.underlying120 ty65 (fun _=>⟨by omega,(by assumption)⟩))) ?_;refine Bp ty65 ?_;refine DrawC.s (fun _ hs=>Aw (FnT.fr (ih y (by rw [hk2];simp))) U (.no U) (Aj hs U) (.cons (hs.tm U) (readA_sup hs U) .nil)) ?_;refine Av ?_;refine DrawC.s (fun _ hs=>(by exact B6 U (.no U) (Aj hs U) (hs.tm U))) ?_;refine Ck Dq ?_;refine Bp ty120 ?_
   refine DrawC.s (fun _ hs=>(by exact An U (.no U) (Aj hs U) (hs.tm U) (.const U) Tryz.underlying120 ty65 (fun _=>⟨by omega,(by assumption)⟩))) ?_;refine Bp ty65 ?_;refine DrawC.s (fun _ hs=>Aw (FnT.fr (ih z (by rw [hk2];simp))) U (.no U) (Aj hs U) (.cons (hs.tm U) (readA_sup hs U) .nil)) ?_;refine Cp U U U (Loc.ofs U fun σ' hs hf=>Bq 2500 (implConcatExpr ⟨simpT y⟩ ⟨simpT z⟩ (by show _≤_;dsimp only;omega)) U U (Aj hs U) (.cons (hs.tm U) (readA_sup hs U) (.cons (hs.tm U) (readA_sup hs U) .nil)) U (all_fresh hf)) ?_;refine DrawC.fin U U ?_;refine Ao Ar ?_;refine Aa (Ai (A4 U (.cell U U Ar U U .nil) U ?_))
   rw [hk2];simp only [List.map,simpG];rw [if_pos h9];rfl
 try simp at h9
 refine Ae (Al (Ap [0,2,8] [2]) ?_);refine Ad (Ba ?_);refine Ag ?_;refine Aa (Ah (.tm U) (fun h26=>?_) (fun h26=>?_))
 · try simp at h26
   obtain⟨y,z,hk2,hte,hgy,hgz⟩:=kind_two' hg (by omega)
   have hi0:(x.kids.map cKid)[(0:Int).toNat]?=some (cKid y):=by rw [hk2];rfl
   have hi1:(x.kids.map cKid)[(1:Int).toNat]?=some (cKid z):=by rw [hk2];rfl
   have hkn:x.kids.length=2:=by rw [hk2];rfl
   have hsy:=simpT_len y
   have hsz:=simpT_len z
   have hln:(toks x).length=(toks y).length+(toks z).length+1:=by rw [hte];simp;omega
   refine Ae (Cc 15 (nthB [[],[0],[0,1],[0,1,2],[0,1,2,3],[0,1,2,3,4],[0,1,2,3,4,5],[],[7],[7,8],[7,8,9],[7,8,9,10],[7,8,9,10,11],[0,1,2,3,4,5,6,7,8,9,10,11,12],[0,1,2,3,4,5,6,7,8,9,10,11,12,13]]) (by kernel_rfl) (by kernel_rfl) (by kernel_rfl) ?_);refine Av ?_;refine DrawC.s (fun _ hs=>(by exact B6 U (.no U) (Aj hs U) (hs.tm U))) ?_;refine Ck Dq ?_;refine Bp ty120 ?_;refine DrawC.s (fun _ hs=>(by exact An U (.no U) (Aj hs U) (hs.tm U) (.const U) Tryz.underlying120 ty65 (fun _=>⟨by omega,(by assumption)⟩))) ?_;refine Bp ty65 ?_;refine DrawC.s (fun _ hs=>Aw (FnT.fr (ih y (by rw [hk2];simp))) U (.no U) (Aj hs U) (.cons (hs.tm U) (readA_sup hs U) .nil)) ?_;refine Av ?_;refine DrawC.s (fun _ hs=>(by exact B6 U (.no U) (Aj hs U) (hs.tm U))) ?_;refine Ck Dq ?_;refine Bp ty120 ?_
   refine DrawC.s (fun _ hs=>(by exact An U (.no U) (Aj hs U) (hs.tm U) (.const U) Tryz.underlying120 ty65 (fun _=>⟨by omega,(by assumption)⟩))) ?_;refine Bp ty65 ?_;refine DrawC.s (fun _ hs=>Aw (FnT.fr (ih z (by rw [hk2];simp))) U (.no U) (Aj hs U) (.cons (hs.tm U) (readA_sup hs U) .nil)) ?_;refine Cp U U U (Loc.ofs U fun σ' hs hf=>Bq 4200 (implUnionExpr ⟨simpT y⟩ ⟨simpT z⟩ (by show _≤_;dsimp only;omega)) U U (Aj hs U) (.cons (hs.tm U) (readA_sup hs U) (.cons (hs.tm U) (readA_sup hs U) .nil)) U (all_fresh hf)) ?_;refine DrawC.fin U U ?_;refine Ao Ar ?_;refine Aa (Ai (A4 U (.cell U U Ar U U .nil) U ?_))
   rw [hk2];simp only [List.map,simpG];rw [if_neg (by omega)];rfl
 try simp at h26
 refine Af (Ba ?_);refine Ag ?_;refine Aa (Ah (.tm U) (fun h43=>?_) (fun h43=>?_))
 · try simp at h43
   obtain⟨y,hk2,hte,hgy⟩:=kind_one' hg (by omega)
   have hi0:(x.kids.map cKid)[(0:Int).toNat]?=some (cKid y):=by rw [hk2];rfl
   have hkn:x.kids.length=1:=by rw [hk2];rfl
   have hsy:=simpT_len y
   have hln:(toks x).length=(toks y).length+1:=by rw [hte];simp
   refine Af (Ab ?_);refine Ac (B6 U (.no U) U (.tm U)) U ?_;refine A8 Dq ?_;refine Ak ty120 ?_;refine Ac (An U (.no U) U (.tm U) (.const U) Tryz.underlying120 ty65 (fun _=>⟨by omega,(by assumption)⟩)) U ?_;refine Ak ty65 ?_;refine Ac (Aw (FnT.fr (ih y (by rw [hk2];simp))) U (.no U) U (.cons (.tm U) U .nil)) U ?_;refine Bc (Bq 5200 (implStarExpr ⟨simpT y⟩ (by show _≤_;dsimp only;omega)) U U U (.cons (.tm U) U .nil) U U) U ?_;refine Ao Ar ?_;refine Aa (Ai (A4 U (.cell U U Ar U U .nil) U ?_))
   rw [hk2];simp only [List.map,simpG];rw [if_pos h43];rfl
 try simp at h43
 refine Af (Ba ?_);refine Ag ?_;refine Aa (Ah (.tm U) (fun h53=>?_) (fun h53=>?_))
 · try simp at h53
   obtain⟨y,hk2,hte,hgy⟩:=kind_one' hg (by omega)
   have hi0:(x.kids.map cKid)[(0:Int).toNat]?=some (cKid y):=by rw [hk2];rfl
   have hkn:x.kids.length=1:=by rw [hk2];rfl
   have hsy:=simpT_len y
   have hsq:0<(⟨simpT y⟩:TExpr).Tokens.length∧(⟨simpT y⟩:TExpr).Tokens.length≤(toks y).length:=hsy
   have hln:(toks x).length=(toks y).length+1:=by rw [hte];simp
   refine Ae (Al (Ap [0,2,8] [2]) ?_);refine Ad (Ab ?_);refine Ac (B6 U (.no U) U (.tm U)) U ?_;refine A8 Dq ?_;refine Ak ty120 ?_;refine Ac (An U (.no U) U (.tm U) (.const U) Tryz.underlying120 ty65 (fun _=>⟨by omega,(by assumption)⟩)) U ?_;refine Ak ty65 ?_;refine Bc (Bq 6100 (ih y (by rw [hk2];simp)) U U U (.cons (.tm U) U .nil) U U) U ?_;refine Aq (Au 3 U U U Ce U U U) U ?_;refine Ao Ar ?_;refine Aa (Ae (AW.block (Ae (Al (Ap [0,2,3,8] [2,6100,3]) ?_))));refine Ad (A3 Ar ?_);refine Bu (implalone _ _) ?_;refine Ab ?_;refine Ac (Bj U (by exact .not1 U U U U) U (.tmp U (by exact fun _=>rfl)) Be) U ?_;refine Ac (Bn U (by exact .not1 U U U U) U (.tmp U (by exact id)) U Cd U U) U ?_;refine Ac (Bj U (by exact .not1 U U U U) U (.tmp U (by exact fun _=>rfl)) Be) U ?_;refine Ac (Bn U (by exact .not1 U U U U) U (.tmp U (by exact id)) U Cd U U) U ?_
   refine Ac (R_lenm U (by exact .not1 U U U U) U (.tmp U (by exact id)) (by exact .rf U) Tryz.underlying24) U ?_;refine Ac (R_sub U (by exact .not1 U U U U) U (.tmp U (by exact id)) (.const U) (fun hq=>by first|omega|(simp at hq;omega))) U ?_;refine Ac ((by exact Ay U (by exact .not1 U U U U) U (.tmp U (by exact id)) U (.tmp U (by exact id)) Tryz.underlying24 Bv (fun hq=>by (try simp at hq);exact⟨by omega,(by exact Am (f:=cToken) (getD_at (d:=tok0 0) (by omega)))⟩))) U ?_;refine Ac (Bh U (by exact .not1 U U U U) U (.tmp U (by exact id)) Co) U ?_;refine Ac ((Bt U (by exact .not1 U U U U) U (.tmp U (by exact id)) U (by exact Am (f:=cToken) (getD_at (d:=tok0 0) (by omega))) ty3 U U)) U ?_;refine Ac (R_eq U (by exact .not1 U U U U) U (.tmp U (by exact id)) (.const U)) U ?_;refine Cj ?_;refine Ag ?_;refine Aa (Ah (.tm U) (fun h62=>?_) (fun h62=>?_))
   · skip
     skip
     refine Ae (Al (Ap [0,2,3,8] [2,6100,3]) ?_);refine Ad (A3 Ar ?_);refine Ao Ar ?_;refine Aa (Ai (A4 U (.cell U U Ar U U .nil) U ?_))
     rw [hk2];simp only [List.map,simpG];rw [if_neg (by omega)];unfold repS lastK;rw [if_pos h62];rfl
   skip
   skip
   refine Ae (Al (Ap [0,2,3,8] [2,6100,3]) ?_);refine Ad (A3 Ar ?_);refine Bu (implalone _ _) ?_;refine Ab ?_;refine Cl ?_;refine Ac (B6 U (by exact .yes1 U U U U) U (.tmp U (by exact id))) U ?_;refine Ac (B9 U (by exact .yes1 U U U U) U (.tmp U (by exact id)) Di) U ?_;refine Ac (B9 U (by exact .yes1 U U U U) U (.tmp U (by exact id)) Db) U ?_;refine Cu ty3 ?_;refine Ac (R_eq U (by exact .yes1 U U U U) U (.tmp U (by exact id)) (.const U)) U ?_;refine Cb ?_;refine Ag ?_;refine Aa (Ah (.tm U) (fun h78=>?_) (fun h78=>?_))
   · skip
     skip
     refine Ae (Al (Ap [0,2,3,8] [2,6100,3]) ?_);refine Ad (Bc (Bq 8900 (implsingle _) U U U (.cons (.const U) U .nil) U U) U ?_);refine Ao Ar ?_;refine Aa (Ai (A4 U (.cell U U Ar U U .nil) U ?_))
     rw [hk2];simp only [List.map,simpG];rw [if_neg (by omega)];unfold repS lastK;rw [if_neg (by rw [h62];simp)];simp only [Bool.and_eq_true,decide_eq_true_eq] at h78;rw [if_pos h78.1,if_pos h78.2];rfl
   skip
   skip
   refine Ae (Al (Ap [0,2,3,8] [2,6100,3]) ?_);refine Ad (A3 Ar ?_);refine Bu (implalone _ _) ?_;refine Ag ?_;refine Aa (Ah (.tm U) (fun h90=>?_) (fun h90=>?_))
   · try simp at h90
     refine Af (A3 Ar ?_);refine Ao Ar ?_;refine Aa (Ai (A4 U (.cell U U Ar U U .nil) U ?_))
     rw [hk2];simp only [List.map,simpG];rw [if_neg (by omega)];unfold repS lastK;rw [if_neg (by rw [h62];simp)];rw [if_pos h90,if_neg (by simpa [h90] using h78)];rfl
   try simp at h90
   refine AW.skip (Ae (Cc 12 (nthB [[],[],[1],[1,2],[1,2,3],[1,2,3,4],[],[6],[6,7],[6,7,8],[6,7,8,9],[0,1,2,3,4,5,6,7,8,9,10]]) (by kernel_rfl) (by kernel_rfl) (by kernel_rfl) ?_));refine DrawC.s (fun _ hs=>(by exact Bn U (.no U) (Aj hs U) (hs.tm U) (hs.res _ _ U) Ar U U)) ?_;refine Av ?_;refine DrawC.s (fun _ hs=>(by exact B6 U (.no U) (Aj hs U) (hs.tm U))) ?_;refine Ck Di ?_;refine Ck Db ?_;refine Bp ty3 ?_;refine Av ?_;refine DrawC.s (fun _ hs=>(by exact B6 U (.no U) (Aj hs U) (hs.tm U))) ?_;refine Ck Di ?_;refine Ck Dn ?_;refine Bp ty3 ?_;refine Cp U U U (Loc.ofs U fun σ' hs hf=>Bq 10500 (implRepeatExpr ⟨simpT y⟩ _ _ (by show _≤_;dsimp only;omega)) U U (Aj hs U) (.cons (hs.tm U) (readA_sup hs U) (.cons (hs.tm U) (readA_sup hs U) (.cons (hs.tm U) (readA_sup hs U) .nil))) U (all_fresh hf)) ?_;refine DrawC.fin U U ?_;refine Ao Ar ?_
   refine Aa (Ai (A4 U (.cell U U Ar U U .nil) U ?_))
   rw [hk2];simp only [List.map,simpG];rw [if_neg (by omega)];unfold repS lastK;rw [if_neg (by rw [h62];simp)];rw [if_neg (by simp [h90])];rfl
 try simp at h53
 refine AW.skip (Ae (Al (Ap [0,2,8] [2]) ?_));refine Ad (Ab ?_);refine Ac (B6 U (.no U) U (.tm U)) U ?_;refine A8 Di ?_;refine Ak Bv ?_;refine Bs (Cn (xs:=[.tmp 109]) 110 U U U (.cons (.tm U) U U .nil) Tryz.underlying24 Ci U U U U) U ?_;refine Ac (A9 (ps:=[(0,.tmp 110)]) U U U Ce U U st26 (.cons (.tm U) U U fp26_0 .nil) U) U ?_;refine Ao Ar ?_;refine Aa (Ai (A4 U (.cell U U Ar U U .nil) U ?_))
 rw [kind_no' hg (by omega)];rfl
theorem implsimplify:∀ x:Tr,good x→(toks x).length≤1048576→FnT Tryz.prog 36 [.one (.ad (treeCells x))] (.a (.agg (cExpr ⟨simpT x⟩))):=
 Tr.ind fun x ih hg hz=>implsimplify1 x hg hz fun y hy=>ih y hy (good_kids hg y hy) (by have:=kids_toks hy;omega)
theorem implSimplifyExpr (e:TExpr):FnT Tryz.prog 7 [.agg (cExpr e)] (.tup [.agg (cExpr (simplify e).1),.one (.v (.bool (simplify e).2))]):=by
 refine A6 Tryz.func7 U (by kernel_rfl) Tryz.ntmps7 U fun hlen w0=>?_
 try simp [cToken,cExpr] at hlen
 refine Af (Ac (Bo U U U (.tm U) (ts:=_) (by rfl)) U ?_);refine Aq (Au 2 U U U Ce U U U) U ?_;refine AWl.ac ?_;refine Aa (Ae (Af (Ak Ar ?_)));refine Bu (implIsValidExpr _) ?_;refine Cw ?_;refine Aa (Ah (.tm U) (fun h6=>?_) (fun h6=>?_))
 · try simp at h6
   refine Af (Ac (A9 (ps:=[]) U U U Ce U U st26 .nil U) U ?_);refine B7 (i:=7) 20001 4 0 U U U ?_;refine Ao Ar ?_;refine Bm (Ap [0,1,2,3,6] [2,20001]) ?_;refine AWl.ac ?_;refine Aa (Ai (Cf U (.cell U U Ar U U (.tmp U .nil)) U ?_ (by simp)))
   rw [simplify_no h6];rfl
 try simp at h6
 obtain⟨x,hx,htk,hgx,hl⟩:=valid_tree h6
 have htr:=impltreeOf e (by omega)
 rw [treeV_some hx] at htr
 refine AW.skip (Af (Ak Ar ?_));refine Ac (Aw (htr) U (.no U) U (.cons (.tm U) U .nil)) U ?_;refine Bc (Bq 1000 (implsimplify x hgx (by rw [htk];omega)) U U U (.cons (.tm U) U .nil) U U) U ?_;refine Ao Ar ?_;refine Bm (Ap [0,1,2,3,6] [2,1000]) ?_;refine AWl.ac ?_;refine Aa (Ai (Cf U (.cell U U Ar U U (.tmp U .nil)) U ?_ (by simp)))
 rw [simplify_yes h6 hx];rfl
theorem specl30Simplify1 (x:Tr) (hg:good x) (hz:(toks x).length≤1048576) (ih:∀ y∈x.kids,∀ L,L=(toks y).map cToken→FnT Tryz.prog 38 [.one (.sl 4 L)] (.a (.agg (cExpr ⟨simpT y⟩)))):FnT Tryz.prog 38 [.one (.sl 4 ((toks x).map cToken))] (.a (.agg (cExpr ⟨simpT x⟩))):=by
 refine A6 Tryz.func38 U (by kernel_rfl) Tryz.ntmps38 U fun hlen w0=>?_
 try simp [cToken,cExpr] at hlen
 clear hlen;rw [simpT_eq];have hlast:=tok_last x;have hpos:=toks_pos x
 refine Af (Aq (Au 2 U U U Ce U U U) U ?_);refine Aa (Af (Ab ?_));refine Br (.t) Tryz.underlying24 ?_;refine C4 ?_;refine Ag ?_;refine Aa (Af (Ab ?_));refine Ab ?_;refine Ac (An U (.no U) U (.tm U) (.tm U) Tryz.underlying24 Bv (fun _=>⟨by omega,Am hlast⟩)) U ?_;refine Ak Bv ?_;refine Aq (Au 4 U U U Ci U U U) U ?_;refine Ao Bv ?_;refine Aa (Ae (Ae (Al (Ap [0,2,3,4] [2,4]) ?_)));refine Ad (Bd Co ?_);refine A3 ty3 ?_;refine Aa (AW.block (Af (Ba ?_)));refine Ag ?_;refine Aa (Ah (.tm U) (fun h16=>?_) (fun h16=>?_))
 · try simp at h16
   obtain⟨y,z,hk2,hte,hgy,hgz⟩:=kind_two' hg (by omega)
   have hsy:=simpT_len y
   have hsz:=simpT_len z
   have hln:(toks x).length=(toks y).length+(toks z).length+1:=by rw [hte];simp;omega
   refine Af (Ab ?_);refine Ab ?_;refine Ac (Bw (m:=(toks y).length+(toks z).length) U (.no U) U (.tm U) .no (.yes (.tm U) (fun _=>by first|omega|(simp<;>omega))) Tryz.underlying24 Bv (fun _=>⟨by omega,by first|omega|(simp;omega)⟩)) U ?_;refine Ac (Aw (FnT.fr (l8Start_at hgz (pre:=toks y) (by simp;omega) _ (sl_pre2 hte))) U (.no U) U (.cons (.tm U) U .nil)) U ?_;refine Ag ?_;refine Aa (Ae (Al (Ap [0,2,3,4,5,15] [2,4]) ?_));refine Cc 10 (nthB [[],[],[0,1],[0,1,2],[],[],[],[4,5,6],[0,1,2,3,4,5,6,7],[0,1,2,3,4,5,6,7,8]]) (by kernel_rfl) (by kernel_rfl) (by kernel_rfl) ?_;refine Av ?_;refine Av ?_;refine DrawC.s (fun _ hs=>Bw (m:=(toks y).length) U (.no U) (Aj hs U) (hs.tm U) .no (.yes (hs.tm U) (fun _=>by first|omega|(simp<;>omega))) Tryz.underlying24 Bv (fun _=>⟨by omega,by first|omega|(simp;omega)⟩)) ?_
   refine DrawC.s (fun _ hs=>Aw (FnT.fr (ih y (by rw [hk2];simp) _ (sl_pre (by rw [hte,List.append_assoc])))) U (.no U) (Aj hs U) (.cons (hs.tm U) (readA_sup hs U) .nil)) ?_;refine Av ?_;refine Av ?_;refine Av ?_;refine DrawC.s (fun _ hs=>Bw (n:=(toks y).length) (m:=(toks y).length+(toks z).length) U (.no U) (Aj hs U) (hs.tm U) (.yes (hs.tm U) (fun _=>by first|omega|(simp<;>omega))) (.yes (hs.tm U) (fun _=>by first|omega|(simp<;>omega))) Tryz.underlying24 Bv (fun _=>⟨by omega,by first|omega|(simp;omega)⟩)) ?_;refine DrawC.s (fun _ hs=>Aw (FnT.fr (ih z (by rw [hk2];simp) _ (sl_mid hte))) U (.no U) (Aj hs U) (.cons (hs.tm U) (readA_sup hs U) .nil)) ?_;refine Cp U U U (Loc.ofs U fun σ' hs hf=>Bq 3100 (specConcatExpr ⟨simpT y⟩ ⟨simpT z⟩ (by show _≤_;dsimp only;omega)) U U (Aj hs U) (.cons (hs.tm U) (readA_sup hs U) (.cons (hs.tm U) (readA_sup hs U) .nil)) U (all_fresh hf)) ?_
   refine DrawC.fin U U ?_;refine Ao Ar ?_;refine Aa (Ai (A4 U (.cell U U Ar U U .nil) U ?_))
   rw [hk2];simp only [List.map,simpG];rw [if_pos h16];rfl
 try simp at h16
 refine Af (Ba ?_);refine Ag ?_;refine Aa (Ah (.tm U) (fun h32=>?_) (fun h32=>?_))
 · try simp at h32
   obtain⟨y,z,hk2,hte,hgy,hgz⟩:=kind_two' hg (by omega)
   have hsy:=simpT_len y
   have hsz:=simpT_len z
   have hln:(toks x).length=(toks y).length+(toks z).length+1:=by rw [hte];simp;omega
   refine Af (Ab ?_);refine Ab ?_;refine Ac (Bw (m:=(toks y).length+(toks z).length) U (.no U) U (.tm U) .no (.yes (.tm U) (fun _=>by first|omega|(simp<;>omega))) Tryz.underlying24 Bv (fun _=>⟨by omega,by first|omega|(simp;omega)⟩)) U ?_;refine Ac (Aw (FnT.fr (l8Start_at hgz (pre:=toks y) (by simp;omega) _ (sl_pre2 hte))) U (.no U) U (.cons (.tm U) U .nil)) U ?_;refine Ag ?_;refine Aa (Ae (Al (Ap [0,2,3,4,6,15] [2,4]) ?_));refine Cc 10 (nthB [[],[],[0,1],[0,1,2],[],[],[],[4,5,6],[0,1,2,3,4,5,6,7],[0,1,2,3,4,5,6,7,8]]) (by kernel_rfl) (by kernel_rfl) (by kernel_rfl) ?_;refine Av ?_;refine Av ?_;refine DrawC.s (fun _ hs=>Bw (m:=(toks y).length) U (.no U) (Aj hs U) (hs.tm U) .no (.yes (hs.tm U) (fun _=>by first|omega|(simp<;>omega))) Tryz.underlying24 Bv (fun _=>⟨by omega,by first|omega|(simp;omega)⟩)) ?_
   refine DrawC.s (fun _ hs=>Aw (FnT.fr (ih y (by rw [hk2];simp) _ (sl_pre (by rw [hte,List.append_assoc])))) U (.no U) (Aj hs U) (.cons (hs.tm U) (readA_sup hs U) .nil)) ?_;refine Av ?_;refine Av ?_;refine Av ?_;refine DrawC.s (fun _ hs=>Bw (n:=(toks y).length) (m:=(toks y).length+(toks z).length) U (.no U) (Aj hs U) (hs.tm U) (.yes (hs.tm U) (fun _=>by first|omega|(simp<;>omega))) (.yes (hs.tm U) (fun _=>by first|omega|(simp<;>omega))) Tryz.underlying24 Bv (fun _=>⟨by omega,by first|omega|(simp;omega)⟩)) ?_;refine DrawC.s (fun _ hs=>Aw (FnT.fr (ih z (by rw [hk2];simp) _ (sl_mid hte))) U (.no U) (Aj hs U) (.cons (hs.tm U) (readA_sup hs U) .nil)) ?_;refine Cp U U U (Loc.ofs U fun σ' hs hf=>Bq 4700 (specUnionExpr ⟨simpT y⟩ ⟨simpT z⟩ (by show _≤_;dsimp only;omega)) U U (Aj hs U) (.cons (hs.tm U) (readA_sup hs U) (.cons (hs.tm U) (readA_sup hs U) .nil)) U (all_fresh hf)) ?_
   refine DrawC.fin U U ?_;refine Ao Ar ?_;refine Aa (Ai (A4 U (.cell U U Ar U U .nil) U ?_))
   rw [hk2];simp only [List.map,simpG];rw [if_neg (by omega)];rfl
 try simp at h32
 refine Af (Ba ?_);refine Ag ?_;refine Aa (Ah (.tm U) (fun h48=>?_) (fun h48=>?_))
 · try simp at h48
   obtain⟨y,hk2,hte,hgy⟩:=kind_one' hg (by omega)
   have hsy:=simpT_len y
   have hln:(toks x).length=(toks y).length+1:=by rw [hte];simp
   refine Ae (Al (Ap [0,2,3,4,15] [2,4]) ?_);refine Ad (Ab ?_);refine Ab ?_;refine Ac (Bw (m:=(toks y).length) U (.no U) U (.tm U) .no (.yes (.tm U) (fun _=>by first|omega|(simp<;>omega))) Tryz.underlying24 Bv (fun _=>⟨by omega,by first|omega|(simp;omega)⟩)) U ?_;refine Ac (Aw (FnT.fr (ih y (by rw [hk2];simp) _ (sl_pre hte))) U (.no U) U (.cons (.tm U) U .nil)) U ?_;refine Bc (Bq 5400 (specStarExpr ⟨simpT y⟩ (by show _≤_;dsimp only;omega)) U U U (.cons (.tm U) U .nil) U U) U ?_;refine Ao Ar ?_;refine Aa (Ai (A4 U (.cell U U Ar U U .nil) U ?_))
   rw [hk2];simp only [List.map,simpG];rw [if_pos h48];rfl
 try simp at h48
 refine Ae (Al (Ap [0,2,3,4,15] [2,4]) ?_);refine Ad (Ba ?_);refine Ag ?_;refine Aa (Ah (.tm U) (fun h55=>?_) (fun h55=>?_))
 · try simp at h55
   obtain⟨y,hk2,hte,hgy⟩:=kind_one' hg (by omega)
   have hsy:=simpT_len y
   have hln:(toks x).length=(toks y).length+1:=by rw [hte];simp
   refine Ae (Cc 8 (nthB [[],[],[0,1],[0,1,2],[],[4],[],[6]]) (by kernel_rfl) (by kernel_rfl) (by kernel_rfl) ?_);refine Av ?_;refine Av ?_;refine DrawC.s (fun _ hs=>Bw (m:=(toks y).length) U (.no U) (Aj hs U) (hs.tm U) .no (.yes (hs.tm U) (fun _=>by first|omega|(simp<;>omega))) Tryz.underlying24 Bv (fun _=>⟨by omega,by first|omega|(simp;omega)⟩)) ?_;refine Cp U U U (Loc.ofs U fun σ' hs hf=>Bq 6000 (ih y (by rw [hk2];simp) _ (sl_pre hte)) U U (Aj hs U) (.cons (hs.tm U) (readA_sup hs U) .nil) U (all_fresh hf)) ?_;refine DrawC.s (fun _ hs=>(by exact Bj U (.no U) (Aj hs U) (hs.tm U) Db)) ?_;refine DrawC.s (fun _ hs=>(by exact Bn U (.no U) (Aj hs U) (hs.tm U) (hs.res _ _ U) ty3 U U)) ?_;refine DrawC.s (fun _ hs=>(by exact Bj U (.no U) (Aj hs U) (hs.tm U) Dn)) ?_;refine DrawC.s (fun _ hs=>(by exact Bn U (.no U) (Aj hs U) (hs.tm U) (hs.res _ _ U) ty3 U U)) ?_;refine DrawC.fin U U ?_
   apply AWl.consume
   case ho=>
    apply R_consume (xo:=.tmp 60) 6500 (specl30Repeat ⟨simpT y⟩ x.tok.Low x.tok.High (by show _<_;dsimp only;omega) (by show _≤_;dsimp only;omega)) rfl rfl rfl (.tm rfl)
    case ha=>rfl
    case hargs=>exact (ArgC.own (ArgRd.one (.tm rfl) (ArgRd.one (.tm rfl) .nil)))
    all_goals rfl
   case hd=>rfl
   refine Ao Ar ?_;refine Aa (Ai (A4 U (.cell U U Ar U U .nil) U ?_))
   rw [hk2];simp only [List.map,simpG];rw [if_neg (by omega)];rfl
 try simp at h55
 refine AW.skip (Af (A3 Bv ?_));refine Bs (Cn (xs:=[.tmp 66]) 67 U U U (.cons (.tm U) U U .nil) Tryz.underlying24 Ci U U U U) U ?_;refine Ac (A9 (ps:=[(0,.tmp 67)]) U U U Ce U U st26 (.cons (.tm U) U U fp26_0 .nil) U) U ?_;refine Ao Ar ?_;refine Aa (Ai (A4 U (.cell U U Ar U U .nil) U ?_))
 rw [kind_no' hg (by omega)];rfl
theorem specl30Simplify:∀ x:Tr,good x→(toks x).length≤1048576→FnT Tryz.prog 38 [.one (.sl 4 ((toks x).map cToken))] (.a (.agg (cExpr ⟨simpT x⟩))):=
 Tr.ind fun x ih hg hz=>specl30Simplify1 x hg hz fun y hy L hL=>by subst hL;exact ih y hy (good_kids hg y hy) (by have:=kids_toks hy;omega)
theorem specSimplifyExpr (e:TExpr):FnT Tryz.prog 8 [.agg (cExpr e)] (.tup [.agg (cExpr (simplify e).1),.one (.v (.bool (simplify e).2))]):=by
 refine A6 Tryz.func8 U (by kernel_rfl) Tryz.ntmps8 U fun hlen w0=>?_
 try simp [cToken,cExpr] at hlen
 refine Af (Ac (Bo U U U (.tm U) (ts:=_) (by rfl)) U ?_);refine Aq (Au 2 U U U Ce U U U) U ?_;refine AWl.ac ?_;refine Aa (Ae (Af (Ak Ar ?_)));refine Bu (specIsValidExpr _) ?_;refine Cw ?_;refine Aa (Ah (.tm U) (fun h6=>?_) (fun h6=>?_))
 · try simp at h6
   refine Af (Ac (A9 (ps:=[]) U U U Ce U U st26 .nil U) U ?_);refine B7 (i:=7) 20001 4 0 U U U ?_;refine Ao Ar ?_;refine Bm (Ap [0,1,2,3,6] [2,20001]) ?_;refine AWl.ac ?_;refine Aa (Ai (Cf U (.cell U U Ar U U (.tmp U .nil)) U ?_ (by simp)))
   rw [simplify_no h6];rfl
 try simp at h6
 obtain⟨x,hx,htk,hgx,hl⟩:=valid_tree h6
 have hht:=specl30Simplify x hgx (by rw [htk];omega)
 rw [htk] at hht
 refine AW.skip (Af (A8 Be ?_));refine Ak Cd ?_;refine Bc (Bq 1000 (hht) U U U (.cons (.tm U) U .nil) U U) U ?_;refine Ao Ar ?_;refine Bm (Ap [0,1,2,3,6] [2,1000]) ?_;refine AWl.ac ?_;refine Aa (Ai (Cf U (.cell U U Ar U U (.tmp U .nil)) U ?_ (by simp)))
 rw [simplify_yes h6 hx];rfl
theorem specIsSimplified (e:TExpr):FnT Tryz.prog 11 [.agg (cExpr e)] (.a (.one (.v (.bool ((simplify e).2&&decide ((simplify e).1=e)))))):=by
 refine A6 Tryz.func11 U (by kernel_rfl) Tryz.ntmps11 U fun hlen w0=>?_
 try simp [cToken,cExpr] at hlen
 refine Af (Ac (Bo U U U (.tm U) (ts:=_) (by rfl)) U ?_);refine AWl.ac ?_;refine Aa (Af (Ak Ar ?_));refine Bu (specSimplifyExpr _) ?_;refine Ac (Dd U (.no U) U U fun _=>rfl) U ?_;refine Ac (Bx U (.no U) U U (fun _=>rfl) U) U ?_;refine Ac (Bx U (.no U) U U (fun _=>rfl) U) U ?_;refine Aq (Au 3 U U U Ce U U U) U ?_;refine Ao Ar ?_;refine Bm (Ap [0,1,2,3,9] [3]) ?_;refine Ag ?_;refine Aa (Af (Ab ?_));refine Ab ?_;refine Ac (Bn U (by exact .yes1 U U U U) U (.tmp U (by exact fun _=>rfl)) U Ar U U) U ?_;refine Ac (Ca U (by exact .yes1 U U U U) U (.tmp U (by exact fun _=>rfl)) Ar U U) U ?_;refine Ac (Aw (FnT.fr (specEqualExprs _ _)) U (by exact .yes1 U U U U) U (.cons (.tmp U (by exact id)) U (.cons (.tmp U (by exact id)) U .nil))) U ?_;refine Cb ?_;refine Ag ?_;refine Aa (Ai (Bb U U ?_))
 rfl
theorem implIsSimplified (e:TExpr):FnT Tryz.prog 10 [.agg (cExpr e)] (.a (.one (.v (.bool ((simplify e).2&&decide ((simplify e).1=e)))))):=by
 refine A6 Tryz.func10 U (by kernel_rfl) Tryz.ntmps10 U fun hlen w0=>?_
 try simp [cToken,cExpr] at hlen
 refine Af (Ac (Bo U U U (.tm U) (ts:=_) (by rfl)) U ?_);refine AWl.ac ?_;refine Aa (Af (Ak Ar ?_));refine Bu (implSimplifyExpr _) ?_;refine Ac (Dd U (.no U) U U fun _=>rfl) U ?_;refine Ac (Bx U (.no U) U U (fun _=>rfl) U) U ?_;refine Ac (Bx U (.no U) U U (fun _=>rfl) U) U ?_;refine Aq (Au 3 U U U Ce U U U) U ?_;refine Ao Ar ?_;refine Bm (Ap [0,1,2,3,9] [3]) ?_;refine Ag ?_;refine Aa (Af (Ab ?_));refine Ab ?_;refine Ac (Bn U (by exact .yes1 U U U U) U (.tmp U (by exact fun _=>rfl)) U Ar U U) U ?_;refine Ac (Ca U (by exact .yes1 U U U U) U (.tmp U (by exact fun _=>rfl)) Ar U U) U ?_;refine Ac (Aw (FnT.fr (implEqualExprs _ _)) U (by exact .yes1 U U U U) U (.cons (.tmp U (by exact id)) U (.cons (.tmp U (by exact id)) U .nil))) U ?_;refine Cb ?_;refine Ag ?_;refine Aa (Ai (Bb U U ?_))
 rfl
theorem simplify_len (e:TExpr):(simplify e).1.Tokens.length≤e.Tokens.length:=by
 cases h:isValidExpr e with
 | false=>rw [simplify_no h];simp
 | true=>
  obtain⟨x,hx,htk,hgx,hl⟩:=valid_tree h
  rw [simplify_yes h hx,←htk]
  exact (simpT_len x).2
end Go.Proofs.YtdhojcaoljhbiaaGreat
