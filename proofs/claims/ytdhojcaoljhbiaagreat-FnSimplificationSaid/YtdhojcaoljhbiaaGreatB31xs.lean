import Derived.Test.YtdhojcaoljhbiaaGreatB30xs
import Derived.Test.YtdhojcaoljhbiaaGreatBExs
set_option linter.unusedVariables false
set_option linter.unusedSimpArgs false
set_option maxHeartbeats 1000000
set_option maxRecDepth 100000
namespace Go.Q
open Go.D
def tok0 (k:Int):TToken:=⟨k,0,0,0⟩
def aloneB (l:List TToken) (k:Int):Bool:=decide ((l.length:Int)=1)&&decide ((l[(0:Int).toNat]?.getD (tok0 0)).Kind=k)
def lastK (l:List TToken):Int:=(l[((l.length:Int)-1).toNat]?.getD (tok0 0)).Kind
def concatL (a b:List TToken):List TToken:=if aloneB a 1||aloneB b 1 then [tok0 1] else if aloneB a 2 then b else if aloneB b 2 then a else a++b++[tok0 4]
def unionL (a b:List TToken):List TToken:=if aloneB a 1||decide (a=b) then b else if aloneB b 1 then a else a++b++[tok0 5]
def starL (e:List TToken):List TToken:=if aloneB e 1||aloneB e 2 then [tok0 2] else if decide (0<(e.length:Int))&&decide (lastK e=6) then e else e++[tok0 6]
def repeatL (e:List TToken) (lo hi:Int):List TToken:=if lo=0∧hi=0 then [tok0 2] else if lo=1∧hi=1 then e else e++[⟨7,0,lo,hi⟩]
def repS (e:List TToken) (lo hi:Int):List TToken:=if aloneB e 2||decide (lastK e=6) then e else if aloneB e 1 then (if lo=0 then [tok0 2] else e) else repeatL e lo hi
def simpG (t:TToken):List (List TToken)→List TToken
 | []=>[t]
 | [a]=>if t.Kind=6 then starL a else repS a t.Low t.High
 | a::b::_=>if t.Kind=4 then concatL a b else unionL a b
def simpT:Tr→List TToken
 | .leaf t=>simpG t []
 | .un t x=>simpG t [simpT x]
 | .bin t x y=>simpG t [simpT x,simpT y]
theorem simpT_eq (x:Tr):simpT x=simpG x.tok (x.kids.map simpT):=by cases x<;>rfl
theorem concatL_len {a b:List TToken} {n m:Nat} (ha:0<a.length∧a.length≤n) (hb:0<b.length∧b.length≤m):0<(concatL a b).length∧(concatL a b).length≤n+m+1:=by
 unfold concatL
 repeat' split
 all_goals first|omega|(simp<;>omega)
theorem unionL_len {a b:List TToken} {n m:Nat} (ha:0<a.length∧a.length≤n) (hb:0<b.length∧b.length≤m):0<(unionL a b).length∧(unionL a b).length≤n+m+1:=by
 unfold unionL
 repeat' split
 all_goals first|omega|(simp<;>omega)
theorem starL_len {a:List TToken} {n:Nat} (ha:0<a.length∧a.length≤n):0<(starL a).length∧(starL a).length≤n+1:=by
 unfold starL
 repeat' split
 all_goals first|omega|(simp<;>omega)
theorem repS_len {a:List TToken} {n:Nat} {lo hi:Int} (ha:0<a.length∧a.length≤n):0<(repS a lo hi).length∧(repS a lo hi).length≤n+1:=by
 unfold repS repeatL
 repeat' split
 all_goals first|omega|(simp<;>omega)
theorem simpT_len (x:Tr):0<(simpT x).length∧(simpT x).length≤(toks x).length:=by
 induction x with
 | leaf t=>simp [simpT,simpG,toks]
 | un t x ih=>
  simp only [simpT,simpG,toks,List.length_append,List.length_singleton]
  split
  · exact starL_len ih
  exact repS_len ih
 | bin t x y ih1 ih2=>
  simp only [simpT,simpG,toks,List.length_append,List.length_singleton]
  split
  · exact concatL_len ih1 ih2
  exact unionL_len ih1 ih2
def simplify (e:TExpr):TExpr×Bool:=if isValidExpr e then (match treeM e.Tokens with|some x=>(⟨simpT x⟩,true)|none=>(⟨[]⟩,false)) else (⟨[]⟩,false)
theorem simplify_no {e:TExpr} (h:isValidExpr e=false):simplify e=(⟨[]⟩,false):=by unfold simplify;rw [h];rfl
theorem simplify_yes {e:TExpr} {x:Tr} (h:isValidExpr e=true) (hx:treeM e.Tokens=some x):simplify e=(⟨simpT x⟩,true):=by unfold simplify;rw [h,hx];rfl
def joinT (l:List TExpr):List TToken:=l.flatMap (·.Tokens)
theorem joinT_at {l:List TExpr} {k:Nat} {e:TExpr} (h:l[k]?=some e):joinT (l.take (k+1))=joinT (l.take k)++e.Tokens:=by unfold joinT;rw [take_at h];simp
theorem joinT_le {l:List TExpr} (k:Nat):(joinT (l.take k)).length≤(joinT l).length:=by
 conv=>rhs;rw [←List.take_append_drop k l]
 unfold joinT
 rw [List.flatMap_append,List.length_append];omega
end Go.Q
namespace Go.Proofs.YtdhojcaoljhbiaaGreat
open Go.RowKit Go.Q Go.D
theorem implalone (e:TExpr) (k:Int):FnT Tryz.prog 82 [.agg (cExpr e),.one (.v (.int .i64 k))] (.a (.one (.v (.bool (aloneB e.Tokens k))))):=by
 refine A6 Tryz.func82 U (by kernel_rfl) Tryz.ntmps82 U fun hlen w0=>?_
 try simp [cToken,cExpr] at hlen
 refine Af (Ac (Bo U U U (.tm U) (ts:=_) (by rfl)) U ?_);refine AWl.ac ?_;refine Aa (Af (A8 Be ?_));refine Ak Cd ?_;refine Br (.t) Tryz.underlying24 ?_;refine Ba ?_;refine Ab ?_;refine AWl.fy Be ?_;refine Cu Cd ?_;refine Ac ((by exact An U (by exact .yes1 U U U U) U (.tmp U (by exact id)) (.const U) Tryz.underlying24 Bv (fun hq=>by (try simp at hq);exact⟨by omega,Am (f:=cToken) (getD_at (d:=tok0 0) (by omega))⟩))) U ?_;refine Ac (B9 U (by exact .yes1 U U U U) U (.tmp U (by exact id)) Co) U ?_;refine Cu ty3 ?_;refine Cl ?_;refine Ac (R_eq U (by exact .yes1 U U U U) U (.tmp U (by exact id)) (.tmp U (by exact id))) U ?_;refine Cb ?_;refine Ag ?_;refine Aa (Ai (Bb U U ?_))
 rfl
theorem specl8Is (e:TExpr) (k:Int):FnT Tryz.prog 141 [.agg (cExpr e),.one (.v (.int .i64 k))] (.a (.one (.v (.bool (aloneB e.Tokens k))))):=by
 refine A6 Tryz.func141 U (by kernel_rfl) Tryz.ntmps141 U fun hlen w0=>?_
 try simp [cToken,cExpr] at hlen
 refine Af (Ac (Bo U U U (.tm U) (ts:=_) (by rfl)) U ?_);refine AWl.ac ?_;refine Aa (Af (A8 Be ?_));refine Ak Cd ?_;refine Br (.t) Tryz.underlying24 ?_;refine Ba ?_;refine Ab ?_;refine AWl.fy Be ?_;refine Cu Cd ?_;refine Ac ((by exact An U (by exact .yes1 U U U U) U (.tmp U (by exact id)) (.const U) Tryz.underlying24 Bv (fun hq=>by (try simp at hq);exact⟨by omega,Am (f:=cToken) (getD_at (d:=tok0 0) (by omega))⟩))) U ?_;refine Ac (B9 U (by exact .yes1 U U U U) U (.tmp U (by exact id)) Co) U ?_;refine Cu ty3 ?_;refine Cl ?_;refine Ac (R_eq U (by exact .yes1 U U U U) U (.tmp U (by exact id)) (.tmp U (by exact id))) U ?_;refine Cb ?_;refine Ag ?_;refine Aa (Ai (Bb U U ?_))
 rfl
theorem implsingle (k:Int):FnT Tryz.prog 83 [.one (.v (.int .i64 k))] (.a (.agg (cExpr ⟨[tok0 k]⟩))):=by
 refine A6 Tryz.func83 U (by kernel_rfl) Tryz.ntmps83 U fun hlen w0=>?_
 try simp [cToken,cExpr] at hlen
 refine Af (Aq (Au 2 U U U Ce U U U) U ?_);refine Aa (Af (Ab ?_));refine Ac (A9 (ps:=[(0,.tmp 3)]) U U U Ci U U Da (.cons (.tm U) U U Cg .nil) U) U ?_;refine Bs (Cn (xs:=[.tmp 4]) 5 U U U (.cons (.tm U) U U .nil) Tryz.underlying24 Ci U U U U) U ?_;refine Ac (A9 (ps:=[(0,.tmp 5)]) U U U Ce U U st26 (.cons (.tm U) U U fp26_0 .nil) U) U ?_;refine Ao Ar ?_;refine Aa (Ai (A4 U (.cell U U Ar U U .nil) U ?_))
 rfl
theorem specl8Leaf (k:Int):FnT Tryz.prog 142 [.one (.v (.int .i64 k))] (.a (.agg (cExpr ⟨[tok0 k]⟩))):=by
 refine A6 Tryz.func142 U (by kernel_rfl) Tryz.ntmps142 U fun hlen w0=>?_
 try simp [cToken,cExpr] at hlen
 refine Af (Aq (Au 2 U U U Ce U U U) U ?_);refine Aa (Af (Ab ?_));refine Ac (A9 (ps:=[(0,.tmp 3)]) U U U Ci U U Da (.cons (.tm U) U U Cg .nil) U) U ?_;refine Bs (Cn (xs:=[.tmp 4]) 5 U U U (.cons (.tm U) U U .nil) Tryz.underlying24 Ci U U U U) U ?_;refine Ac (A9 (ps:=[(0,.tmp 5)]) U U U Ce U U st26 (.cons (.tm U) U U fp26_0 .nil) U) U ?_;refine Ao Ar ?_;refine Aa (Ai (A4 U (.cell U U Ar U U .nil) U ?_))
 rfl
theorem implcopyExpr (e:TExpr) (hz:e.Tokens.length≤4194304):FnT Tryz.prog 139 [.agg (cExpr e)] (.a (.agg (cExpr e))):=by
 refine A6 Tryz.func139 U (by kernel_rfl) Tryz.ntmps139 U fun hlen w0=>?_
 try simp [cToken,cExpr] at hlen
 refine Af (Ac (Bo U U U (.tm U) (ts:=_) (by rfl)) U ?_);refine Aq (Au 2 U U U Ce U U U) U ?_;refine Aa (Af (Aq (Dj 3 U U U Tryz.underlying24 Bv U) U ?_));refine A8 Be ?_;refine Ak Cd ?_;refine Bg (By U U U (.tm U) U (.tm U) (by exact .t) (by exact isV_map (fun _=>rfl) _) Tryz.underlying24 Ci U (by (simp [chunk];omega)) (by (unfold maxLen;simp [chunk];omega))) U ?_;refine Bm (Ap [0,1,2,6] [2,3]) ?_;refine Ac (A9 (ps:=[(0,.tmp 6)]) U U U Ce U U st26 (.cons (.tm U) U U fp26_0 .nil) U) U ?_;refine Ao Ar ?_;refine Aa (Ai (A4 U (.cell U U Ar U U .nil) U ?_))
 rfl
theorem specl8Copy (l:List TToken) (hz:l.length≤4194304):FnT Tryz.prog 143 [.one (.sl 4 (l.map cToken))] (.a (.agg (cExpr ⟨l⟩))):=by
 refine A6 Tryz.func143 U (by kernel_rfl) Tryz.ntmps143 U fun hlen w0=>?_
 try simp [cToken,cExpr] at hlen
 refine Af (Aq (Au 2 U U U Ce U U U) U ?_);refine Aa (Af (Aq (Dj 3 U U U Tryz.underlying24 Bv U) U ?_));refine Ab ?_;refine Bg (By U U U (.tm U) U (.tm U) (by exact .t) (by exact isV_map (fun _=>rfl) _) Tryz.underlying24 Ci U (by (simp [chunk];omega)) (by (unfold maxLen;simp [chunk];omega))) U ?_;refine Bm (Ap [0,2,5] [2,3]) ?_;refine Ac (A9 (ps:=[(0,.tmp 5)]) U U U Ce U U st26 (.cons (.tm U) U U fp26_0 .nil) U) U ?_;refine Ao Ar ?_;refine Aa (Ai (A4 U (.cell U U Ar U U .nil) U ?_))
 rfl
theorem specl8Join (a b:TExpr) (t:TToken) (hz:a.Tokens.length+b.Tokens.length≤4194304):FnT Tryz.prog 144 [.agg (cExpr a),.agg (cExpr b),.agg (cToken t)] (.a (.agg (cExpr ⟨a.Tokens++b.Tokens++[t]⟩))):=by
 refine A6 Tryz.func144 U (by kernel_rfl) Tryz.ntmps144 U fun hlen w0=>?_
 try simp [cToken,cExpr] at hlen
 refine Af (Ac (Bo U U U (.tm U) (ts:=_) (by rfl)) U ?_);refine Ac (Bo U U U (.tm U) (ts:=_) (by rfl)) U ?_;refine Ac (Bo U U U (.tm U) (ts:=_) (by rfl)) U ?_;refine Aq (Au 6 U U U Ce U U U) U ?_;refine Aa (Af (A8 Be ?_));refine Ak Cd ?_;refine Bc (Bq 1000 (specl8Copy _ (by omega)) U U U (.cons (.tm U) U .nil) U U) U ?_;refine Aq (Au 7 U U U Ce U U U) U ?_;refine Ao Ar ?_;refine Aa (Af (Bd Be ?_));refine A3 Cd ?_;refine A8 Be ?_;refine Ak Cd ?_;refine Bg (By U U U (.tm U) U (.tm U) (by exact .t) (by exact isV_map (fun _=>rfl) _) Tryz.underlying24 Ci U (by (simp [chunk];omega)) (by (unfold maxLen;simp [chunk];omega))) U ?_;refine Bm (Ap [0,1,2,3,4,5,6,7,15] [6,1000,7]) ?_;refine Bd Be ?_;refine Ao Cd ?_;refine Aa (Af (Bd Be ?_));refine A3 Cd ?_;refine Ak Bv ?_;refine Bs (Cn (xs:=[.tmp 19]) 20 U U U (.cons (.tm U) U U .nil) Tryz.underlying24 Ci U U U U) U ?_
 refine C1 (C9 U U U (.tm U) U (.tm U) U U Tryz.underlying24 Ci U (by (simp [chunk];omega)) (by (unfold maxLen;simp [chunk];omega))) U ?_;refine Bm (Ap [0,1,2,3,4,5,6,7,21] [6,1000,7]) ?_;refine Bd Be ?_;refine Ao Cd ?_;refine Aa (Af (A3 Ar ?_));refine Ao Ar ?_;refine Aa (Ai (A4 U (.cell U U Ar U U .nil) U ?_))
 simp [cExpr,unflT,cToken,chunk];rfl
theorem impljoined (t:TToken) (l:List TExpr) (hz:(joinT l).length≤4194304):FnT Tryz.prog 140 [.agg (cToken t),.one (.sl 1 (l.map cExpr))] (.a (.agg (cExpr ⟨joinT l++[t]⟩))):=by
 refine A6 Tryz.func140 U (by kernel_rfl) Tryz.ntmps140 U fun hlen w0=>?_
 try simp [cToken,cExpr] at hlen
 refine Af (Ac (Bo U U U (.tm U) (ts:=_) (by rfl)) U ?_);refine Aq (Au 4 U U U Ce U U U) U ?_;refine Aa (Af (Ac (A9 (ps:=[]) U U U Ce U U st26 .nil U) U ?_));refine B7 (i:=8) 20001 4 0 U U U ?_;refine Aq (Au 5 U U U Ce U U U) U ?_;refine Ao Ar ?_;refine Aa (Ae (Af (Ab ?_)));refine Br (.t) Tryz.underlying201 ?_;refine Ac (Bf U (.no U) U (.const U)) U ?_;refine Aa (AW.block ?_);refine Dp (fun (k:Nat)=>(k≤l.length)∧True) (fun (k:Nat)=>⟨_,[(11,(true,.a (.one (.t (.v (.int .i64 (k:Nat))))))),(2,_),(4,_),(5,_),(9,_),(10,_)],[(4,.box [.t (.v (.slice none 0 0))]),(5,.box [.rf 20001]),(20001,.row 4 ((joinT (l.take k)).map cToken))]⟩) (fun (k:Nat)=>l.length-k) (0) ⟨by simp,Y⟩ Bi ?_
 rintro k ⟨hk,he⟩
 refine Af (AWl.lt ?_);refine Aa (Ae (Ah (.tm U) (fun hlt=>?_) (fun hlt=>?_)))
 · try simp at hlt
   obtain⟨e,hx⟩:∃ e,l[k]?=some e:=⟨_,List.getElem?_eq_getElem (by omega)⟩
   have hj:=joinT_at hx
   have hj2:=joinT_le (l:=l) (k+1)
   rw [hj,List.length_append] at hj2
   refine AW.skip (Ae (AW.block (Af (Ac ((An U (.no U) U (.tm U) (.tm U) Tryz.underlying201 Ar (fun _=>⟨by omega,(by exact Am (by assumption))⟩))) U ?_))));refine Ak Ar ?_;refine Aq (Au 7 U U U Ce U U U) U ?_;refine Ao Ar ?_;refine Aa (Ad (Bd Be ?_));refine A3 Cd ?_;refine Bd Be ?_;refine A3 Cd ?_;refine Bg (By U U U (.tm U) U (.tm U) (by exact .t) (by exact isV_map (fun _=>rfl) _) Tryz.underlying24 Ci U (by (simp [chunk];omega)) (by (unfold maxLen;simp [chunk];omega))) U ?_;refine Bm (Ap [2,4,5,7,9,10,11,12,19] [4,5,20001,7]) ?_;refine Bd Be ?_;refine Ao Cd ?_;refine Aa (Ad (Bk ?_));refine Ab ?_;refine Aa ?_
   repeat (with_reducible refine A7 ?_)
   refine Round1.next (k+1) ⟨by omega,Y⟩ (by omega) (Az rfl ⟨rfl,rfl,rfl,rfl,rfl,rfl,Y⟩ ⟨(by rfl),(by rfl),congrArg (fun r=>some (R.row 4 r)) (by rw [hj];simp),Y⟩)
 try simp at hlt
 have hj2:=joinT_le (l:=l) k
 refine Bz (Af (Bd Be ?_));refine A3 Cd ?_;refine Ak Bv ?_;refine Bs (Cn (xs:=[.tmp 24]) 25 U U U (.cons (.tm U) U U .nil) Tryz.underlying24 Ci U U U U) U ?_;refine C1 (C9 U U U (.tm U) U (.tm U) U U Tryz.underlying24 Ci U (by (simp [chunk];omega)) (by (unfold maxLen;simp [chunk];omega))) U ?_;refine Bm (Ap [2,4,5,9,10,11,12,26] [4,5,20001]) ?_;refine Bd Be ?_;refine Ao Cd ?_;refine Aa (Af (A3 Ar ?_));refine Ao Ar ?_;refine Aa (Ai (A4 U (.cell U U Ar U U .nil) U ?_))
 rw [List.take_of_length_le (show l.length≤k by omega)];simp [cExpr,unflT,cToken,chunk];rfl
theorem implConcatExpr (a b:TExpr) (hz:a.Tokens.length+b.Tokens.length≤4194304):FnT Tryz.prog 79 [.agg (cExpr a),.agg (cExpr b)] (.a (.agg (cExpr ⟨concatL a.Tokens b.Tokens⟩))):=by
 refine A6 Tryz.func79 U (by kernel_rfl) Tryz.ntmps79 U fun hlen w0=>?_
 try simp [cToken,cExpr] at hlen
 refine Af (Ac (Bo U U U (.tm U) (ts:=_) (by rfl)) U ?_);refine Ac (Bo U U U (.tm U) (ts:=_) (by rfl)) U ?_;refine Aq (Au 4 U U U Ce U U U) U ?_;refine Aa (Ae (AW.block (Af (Ak Ar ?_))));refine Bu (implalone _ _) ?_;refine Ab ?_;refine Ac (Ca U (by exact .not1 U U U U) U (.tmp U (by exact fun _=>rfl)) Ar U U) U ?_;refine Ac (Aw (FnT.fr (implalone _ _)) U (by exact .not1 U U U U) U (.cons (.tmp U (by exact id)) U (.cons (.const U) U .nil))) U ?_;refine Cj ?_;refine Ag ?_;refine Aa (Ah (.tm U) (fun h5=>?_) (fun h5=>?_))
 · skip
   skip
   refine Ae (Al (Ap [0,1,2,3,4] [4]) ?_);refine Ad (Bc (Bq 1200 (implsingle _) U U U (.cons (.const U) U .nil) U U) U ?_);refine Ao Ar ?_;refine Aa (Ai (A4 U (.cell U U Ar U U .nil) U ?_))
   unfold concatL;rw [if_pos h5];rfl
 skip
 skip
 refine Ae (Al (Ap [0,1,2,3,4] [4]) ?_);refine Ad (Ak Ar ?_);refine Bu (implalone _ _) ?_;refine Ag ?_;refine Aa (Ah (.tm U) (fun h13=>?_) (fun h13=>?_))
 · try simp at h13
   refine Af (Ak Ar ?_);refine Bc (Bq 1700 (implcopyExpr _ (by omega)) U U U (.cons (.tm U) U .nil) U U) U ?_;refine Ao Ar ?_;refine Aa (Ai (A4 U (.cell U U Ar U U .nil) U ?_))
   unfold concatL;rw [if_neg (by rw [h5];simp),if_pos h13];rfl
 try simp at h13
 refine Af (Ak Ar ?_);refine Bu (implalone _ _) ?_;refine Ag ?_;refine Aa (Ah (.tm U) (fun h18=>?_) (fun h18=>?_))
 · try simp at h18
   refine Ae (Al (Ap [0,1,2,3,4] [4]) ?_);refine Ad (Ak Ar ?_);refine Bc (Bq 2200 (implcopyExpr _ (by omega)) U U U (.cons (.tm U) U .nil) U U) U ?_;refine Ao Ar ?_;refine Aa (Ai (A4 U (.cell U U Ar U U .nil) U ?_))
   unfold concatL;rw [if_neg (by rw [h5];simp),if_neg (by simp [h13]),if_pos h18];rfl
 try simp at h18
 refine AW.skip (Ae (Al (Ap [0,1,2,3,4] [4]) ?_));refine Ad (Ac (A9 (ps:=[(0,.const (.int .i64 (4)))]) U U U Ci U U Da (.cons (.const U) U U Cg .nil) U) U ?_);refine Ak Ar ?_;refine Ak Ar ?_;refine Ac (Ch (xs:=[.tmp 24,.tmp 25]) (rows:=[cExpr a,cExpr b]) U U U (.cons (.tm U) U U (.cons (.tm U) U U .nil)) Tryz.underlying201 Ce U U (U)) U ?_;refine Bc (Bq 2700 (impljoined (tok0 4) [a,b] (by simp [joinT];omega)) U U U (.cons (.tm U) U (.cons (.tm U) U .nil)) U U) U ?_;refine Ao Ar ?_;refine Aa (Ai (A4 U (.cell U U Ar U U .nil) U ?_))
 unfold concatL;rw [if_neg (by rw [h5];simp),if_neg (by simp [h13]),if_neg (by simp [h18])];simp [joinT,cExpr,unflT];rfl
theorem implUnionExpr (a b:TExpr) (hz:a.Tokens.length+b.Tokens.length≤4194304):FnT Tryz.prog 80 [.agg (cExpr a),.agg (cExpr b)] (.a (.agg (cExpr ⟨unionL a.Tokens b.Tokens⟩))):=by
 refine A6 Tryz.func80 U (by kernel_rfl) Tryz.ntmps80 U fun hlen w0=>?_
 try simp [cToken,cExpr] at hlen
 refine Af (Ac (Bo U U U (.tm U) (ts:=_) (by rfl)) U ?_);refine Ac (Bo U U U (.tm U) (ts:=_) (by rfl)) U ?_;refine Aq (Au 4 U U U Ce U U U) U ?_;refine Aa (Ae (AW.block (Af (Ak Ar ?_))));refine Bu (implalone _ _) ?_;refine Ab ?_;refine Ac (Ca U (by exact .not1 U U U U) U (.tmp U (by exact fun _=>rfl)) Ar U U) U ?_;refine Ac (Ca U (by exact .not1 U U U U) U (.tmp U (by exact fun _=>rfl)) Ar U U) U ?_;refine Ac (Aw (FnT.fr (implEqualExprs _ _)) U (by exact .not1 U U U U) U (.cons (.tmp U (by exact id)) U (.cons (.tmp U (by exact id)) U .nil))) U ?_;refine Cj ?_;refine Ag ?_;refine Aa (Ah (.tm U) (fun h5=>?_) (fun h5=>?_))
 · skip
   skip
   refine Ae (Al (Ap [0,1,2,3,4] [4]) ?_);refine Ad (Ak Ar ?_);refine Bc (Bq 1400 (implcopyExpr _ (by omega)) U U U (.cons (.tm U) U .nil) U U) U ?_;refine Ao Ar ?_;refine Aa (Ai (A4 U (.cell U U Ar U U .nil) U ?_))
   unfold unionL;rw [if_pos (by rw [←h5];congr 1;exact decide_eq_decide.2 (TExpr.ext_iff'.symm))];rfl
 skip
 skip
 refine Ae (Al (Ap [0,1,2,3,4] [4]) ?_);refine Ad (Ak Ar ?_);refine Bu (implalone _ _) ?_;refine Ag ?_;refine Aa (Ah (.tm U) (fun h15=>?_) (fun h15=>?_))
 · try simp at h15
   refine Af (Ak Ar ?_);refine Bc (Bq 1900 (implcopyExpr _ (by omega)) U U U (.cons (.tm U) U .nil) U U) U ?_;refine Ao Ar ?_;refine Aa (Ai (A4 U (.cell U U Ar U U .nil) U ?_))
   unfold unionL;rw [if_neg (by rw [show (aloneB a.Tokens 1||decide (a.Tokens=b.Tokens))=false from by rw [←h5];congr 1;exact decide_eq_decide.2 (TExpr.ext_iff'.symm)];simp),if_pos h15];rfl
 try simp at h15
 refine AW.skip (Af (Ac (A9 (ps:=[(0,.const (.int .i64 (5)))]) U U U Ci U U Da (.cons (.const U) U U Cg .nil) U) U ?_));refine Ak Ar ?_;refine Ak Ar ?_;refine Ac (Ch (xs:=[.tmp 21,.tmp 22]) (rows:=[cExpr a,cExpr b]) U U U (.cons (.tm U) U U (.cons (.tm U) U U .nil)) Tryz.underlying201 Ce U U (U)) U ?_;refine Bc (Bq 2400 (impljoined (tok0 5) [a,b] (by simp [joinT];omega)) U U U (.cons (.tm U) U (.cons (.tm U) U .nil)) U U) U ?_;refine Ao Ar ?_;refine Aa (Ai (A4 U (.cell U U Ar U U .nil) U ?_))
 unfold unionL;rw [if_neg (by rw [show (aloneB a.Tokens 1||decide (a.Tokens=b.Tokens))=false from by rw [←h5];congr 1;exact decide_eq_decide.2 (TExpr.ext_iff'.symm)];simp),if_neg (by simp [h15])];simp [joinT,cExpr,unflT];rfl
theorem implStarExpr (a:TExpr) (hz:a.Tokens.length≤4194304):FnT Tryz.prog 81 [.agg (cExpr a)] (.a (.agg (cExpr ⟨starL a.Tokens⟩))):=by
 refine A6 Tryz.func81 U (by kernel_rfl) Tryz.ntmps81 U fun hlen w0=>?_
 try simp [cToken,cExpr] at hlen
 refine Af (Ac (Bo U U U (.tm U) (ts:=_) (by rfl)) U ?_);refine Aq (Au 2 U U U Ce U U U) U ?_;refine Aa (Af (A8 Be ?_));refine Ak Cd ?_;refine Br (.t) Tryz.underlying24 ?_;refine Ag ?_;refine Aa (Ae (AW.block (Af (Ak Ar ?_))));refine Bu (implalone _ _) ?_;refine Ab ?_;refine Ac (Ca U (by exact .not1 U U U U) U (.tmp U (by exact fun _=>rfl)) Ar U U) U ?_;refine Ac (Aw (FnT.fr (implalone _ _)) U (by exact .not1 U U U U) U (.cons (.tmp U (by exact id)) U (.cons (.const U) U .nil))) U ?_;refine Cj ?_;refine Ag ?_;refine Aa (Ah (.tm U) (fun h7=>?_) (fun h7=>?_))
 · skip
   skip
   refine Ae (Al (Ap [0,1,2,3] [2]) ?_);refine Ad (Bc (Bq 1400 (implsingle _) U U U (.cons (.const U) U .nil) U U) U ?_);refine Ao Ar ?_;refine Aa (Ai (A4 U (.cell U U Ar U U .nil) U ?_))
   unfold starL;rw [if_pos h7];rfl
 skip
 skip
 refine Ae (Al (Ap [0,1,2,3] [2]) ?_);refine Ad (Ab ?_);refine AWl.gc ?_;refine Ab ?_;refine AWl.fy Be ?_;refine Cu Cd ?_;refine Cl ?_;refine Ac (R_sub U (by exact .yes1 U U U U) U (.tmp U (by exact id)) (.const U) (fun hq=>by first|omega|(simp at hq;omega))) U ?_;refine Ac ((by exact An U (by exact .yes1 U U U U) U (.tmp U (by exact id)) (.tmp U (by exact id)) Tryz.underlying24 Bv (fun hq=>by (try simp at hq);exact⟨by omega,Am (f:=cToken) (getD_at (d:=tok0 0) (by omega))⟩))) U ?_;refine Ac (B9 U (by exact .yes1 U U U U) U (.tmp U (by exact id)) Co) U ?_;refine Cu ty3 ?_;refine Ac (R_eq U (by exact .yes1 U U U U) U (.tmp U (by exact id)) (.const U)) U ?_;refine Cb ?_;refine Ag ?_;refine Aa (Ah (.tm U) (fun h15=>?_) (fun h15=>?_))
 · skip
   skip
   refine Ae (Al (Ap [0,1,2,3] [2]) ?_);refine Ad (Ak Ar ?_);refine Bc (Bq 2900 (implcopyExpr _ (by omega)) U U U (.cons (.tm U) U .nil) U U) U ?_;refine Ao Ar ?_;refine Aa (Ai (A4 U (.cell U U Ar U U .nil) U ?_))
   unfold starL lastK;rw [if_neg (by rw [h7];simp),if_pos h15];rfl
 skip
 skip
 refine AW.skip (Ae (Al (Ap [0,1,2,3] [2]) ?_));refine Ad (Ac (A9 (ps:=[(0,.const (.int .i64 (6)))]) U U U Ci U U Da (.cons (.const U) U U Cg .nil) U) U ?_);refine Ak Ar ?_;refine Ac (Ch (xs:=[.tmp 31]) (rows:=[cExpr a]) U U U (.cons (.tm U) U U .nil) Tryz.underlying201 Ce U U (U)) U ?_;refine Bc (Bq 3300 (impljoined (tok0 6) [a] (by simp [joinT];omega)) U U U (.cons (.tm U) U (.cons (.tm U) U .nil)) U U) U ?_;refine Ao Ar ?_;refine Aa (Ai (A4 U (.cell U U Ar U U .nil) U ?_))
 unfold starL lastK;rw [if_neg (by rw [h7];simp),if_neg (by rw [h15];simp)];simp [joinT,cExpr,unflT];rfl
theorem implRepeatExpr (a:TExpr) (lo hi:Int) (hz:a.Tokens.length≤4194304):FnT Tryz.prog 84 [.agg (cExpr a),.one (.v (.int .i64 lo)),.one (.v (.int .i64 hi))] (.a (.agg (cExpr ⟨repeatL a.Tokens lo hi⟩))):=by
 refine A6 Tryz.func84 U (by kernel_rfl) Tryz.ntmps84 U fun hlen w0=>?_
 try simp [cToken,cExpr] at hlen
 refine Af (Ac (Bo U U U (.tm U) (ts:=_) (by rfl)) U ?_);refine Aq (Au 6 U U U Ce U U U) U ?_;refine Aa (Ae (AW.block (Af (Ab ?_))));refine Ba ?_;refine Ab ?_;refine Cl ?_;refine Ac (R_eq U (by exact .yes1 U U U U) U (.tmp U (by exact id)) (.const U)) U ?_;refine Cb ?_;refine Ag ?_;refine Aa (Ah (.tm U) (fun h7=>?_) (fun h7=>?_))
 · try simp at h7
   refine Ae (Al (Ap [0,1,2,3,6] [6]) ?_);refine Ad (Bc (Bq 1400 (implsingle _) U U U (.cons (.const U) U .nil) U U) U ?_);refine Ao Ar ?_;refine Aa (Ai (A4 U (.cell U U Ar U U .nil) U ?_))
   unfold repeatL;rw [if_pos (by omega)];rfl
 try simp at h7
 refine Ae (Al (Ap [0,1,2,3,6] [6]) ?_);refine Ad (Ab ?_);refine Ba ?_;refine Ab ?_;refine Cl ?_;refine Ac (R_eq U (by exact .yes1 U U U U) U (.tmp U (by exact id)) (.const U)) U ?_;refine Cb ?_;refine Ag ?_;refine Aa (Ah (.tm U) (fun h15=>?_) (fun h15=>?_))
 · try simp at h15
   refine Ae (Al (Ap [0,1,2,3,6] [6]) ?_);refine Ad (Ak Ar ?_);refine Bc (Bq 2300 (implcopyExpr _ (by omega)) U U U (.cons (.tm U) U .nil) U U) U ?_;refine Ao Ar ?_;refine Aa (Ai (A4 U (.cell U U Ar U U .nil) U ?_))
   unfold repeatL;rw [if_neg (by omega),if_pos (by omega)];rfl
 try simp at h15
 refine AW.skip (Ae (Al (Ap [0,1,2,3,6] [6]) ?_));refine Ad (Ab ?_);refine Ab ?_;refine Ac (A9 (ps:=[(0,.const (.int .i64 (7))),(2,.tmp 24),(3,.tmp 25)]) U U U Ci U U Da (.cons (.const U) U U Cg (.cons (.tm U) U U fp71_2 (.cons (.tm U) U U fp71_3 .nil))) U) U ?_;refine Ak Ar ?_;refine Ac (Ch (xs:=[.tmp 27]) (rows:=[cExpr a]) U U U (.cons (.tm U) U U .nil) Tryz.underlying201 Ce U U (U)) U ?_;refine Bc (Bq 2900 (impljoined ⟨7,0,lo,hi⟩ [a] (by simp [joinT];omega)) U U U (.cons (.tm U) U (.cons (.tm U) U .nil)) U U) U ?_;refine Ao Ar ?_;refine Aa (Ai (A4 U (.cell U U Ar U U .nil) U ?_))
 unfold repeatL;rw [if_neg (by omega),if_neg (by omega)];simp [joinT,cExpr,unflT];rfl
theorem specConcatExpr (a b:TExpr) (hz:a.Tokens.length+b.Tokens.length≤4194304):FnT Tryz.prog 87 [.agg (cExpr a),.agg (cExpr b)] (.a (.agg (cExpr ⟨concatL a.Tokens b.Tokens⟩))):=by
 refine A6 Tryz.func87 U (by kernel_rfl) Tryz.ntmps87 U fun hlen w0=>?_
 try simp [cToken,cExpr] at hlen
 refine Af (Ac (Bo U U U (.tm U) (ts:=_) (by rfl)) U ?_);refine Ac (Bo U U U (.tm U) (ts:=_) (by rfl)) U ?_;refine Aq (Au 4 U U U Ce U U U) U ?_;refine Aa (Ae (AW.block (Af (Ak Ar ?_))));refine Bu (specl8Is _ _) ?_;refine Ab ?_;refine Ac (Ca U (by exact .not1 U U U U) U (.tmp U (by exact fun _=>rfl)) Ar U U) U ?_;refine Ac (Aw (FnT.fr (specl8Is _ _)) U (by exact .not1 U U U U) U (.cons (.tmp U (by exact id)) U (.cons (.const U) U .nil))) U ?_;refine Cj ?_;refine Ag ?_;refine Aa (Ah (.tm U) (fun h5=>?_) (fun h5=>?_))
 · skip
   skip
   refine Ae (Al (Ap [0,1,2,3,4] [4]) ?_);refine Ad (Bc (Bq 1200 (specl8Leaf _) U U U (.cons (.const U) U .nil) U U) U ?_);refine Ao Ar ?_;refine Aa (Ai (A4 U (.cell U U Ar U U .nil) U ?_))
   unfold concatL;rw [if_pos h5];rfl
 skip
 skip
 refine Ae (Al (Ap [0,1,2,3,4] [4]) ?_);refine Ad (Ak Ar ?_);refine Bu (specl8Is _ _) ?_;refine Ag ?_;refine Aa (Ah (.tm U) (fun h13=>?_) (fun h13=>?_))
 · try simp at h13
   refine Af (A8 Be ?_);refine Ak Cd ?_;refine Bc (Bq 1800 (specl8Copy _ (by omega)) U U U (.cons (.tm U) U .nil) U U) U ?_;refine Ao Ar ?_;refine Aa (Ai (A4 U (.cell U U Ar U U .nil) U ?_))
   unfold concatL;rw [if_neg (by rw [h5];simp),if_pos h13];rfl
 try simp at h13
 refine Af (Ak Ar ?_);refine Bu (specl8Is _ _) ?_;refine Ag ?_;refine Aa (Ah (.tm U) (fun h19=>?_) (fun h19=>?_))
 · try simp at h19
   refine Ae (Al (Ap [0,1,2,3,4] [4]) ?_);refine Ad (A8 Be ?_);refine Ak Cd ?_;refine Bc (Bq 2400 (specl8Copy _ (by omega)) U U U (.cons (.tm U) U .nil) U U) U ?_;refine Ao Ar ?_;refine Aa (Ai (A4 U (.cell U U Ar U U .nil) U ?_))
   unfold concatL;rw [if_neg (by rw [h5];simp),if_neg (by simp [h13]),if_pos h19];rfl
 try simp at h19
 refine AW.skip (Ae (Al (Ap [0,1,2,3,4] [4]) ?_));refine Ad (Ak Ar ?_);refine Ak Ar ?_;refine Ac (A9 (ps:=[(0,.const (.int .i64 (4)))]) U U U Ci U U Da (.cons (.const U) U U Cg .nil) U) U ?_;refine Bc (Bq 2800 (specl8Join a b (tok0 4) (by omega)) U U U (.cons (.tm U) U (.cons (.tm U) U (.cons (.tm U) U .nil))) U U) U ?_;refine Ao Ar ?_;refine Aa (Ai (A4 U (.cell U U Ar U U .nil) U ?_))
 unfold concatL;rw [if_neg (by rw [h5];simp),if_neg (by simp [h13]),if_neg (by simp [h19])];rfl
theorem specUnionExpr (a b:TExpr) (hz:a.Tokens.length+b.Tokens.length≤4194304):FnT Tryz.prog 88 [.agg (cExpr a),.agg (cExpr b)] (.a (.agg (cExpr ⟨unionL a.Tokens b.Tokens⟩))):=by
 refine A6 Tryz.func88 U (by kernel_rfl) Tryz.ntmps88 U fun hlen w0=>?_
 try simp [cToken,cExpr] at hlen
 refine Af (Ac (Bo U U U (.tm U) (ts:=_) (by rfl)) U ?_);refine Ac (Bo U U U (.tm U) (ts:=_) (by rfl)) U ?_;refine Aq (Au 4 U U U Ce U U U) U ?_;refine Aa (Ae (AW.block (Af (Ak Ar ?_))));refine Bu (specl8Is _ _) ?_;refine Ab ?_;refine Ac (Ca U (by exact .not1 U U U U) U (.tmp U (by exact fun _=>rfl)) Ar U U) U ?_;refine Ac (Ca U (by exact .not1 U U U U) U (.tmp U (by exact fun _=>rfl)) Ar U U) U ?_;refine Ac (Aw (FnT.fr (specEqualExprs _ _)) U (by exact .not1 U U U U) U (.cons (.tmp U (by exact id)) U (.cons (.tmp U (by exact id)) U .nil))) U ?_;refine Cj ?_;refine Ag ?_;refine Aa (Ah (.tm U) (fun h5=>?_) (fun h5=>?_))
 · skip
   skip
   refine Ae (Al (Ap [0,1,2,3,4] [4]) ?_);refine Ad (A8 Be ?_);refine Ak Cd ?_;refine Bc (Bq 1500 (specl8Copy _ (by omega)) U U U (.cons (.tm U) U .nil) U U) U ?_;refine Ao Ar ?_;refine Aa (Ai (A4 U (.cell U U Ar U U .nil) U ?_))
   unfold unionL;rw [if_pos (by rw [←h5];congr 1;exact decide_eq_decide.2 (TExpr.ext_iff'.symm))];rfl
 skip
 skip
 refine Ae (Al (Ap [0,1,2,3,4] [4]) ?_);refine Ad (Ak Ar ?_);refine Bu (specl8Is _ _) ?_;refine Ag ?_;refine Aa (Ah (.tm U) (fun h16=>?_) (fun h16=>?_))
 · try simp at h16
   refine Af (A8 Be ?_);refine Ak Cd ?_;refine Bc (Bq 2100 (specl8Copy _ (by omega)) U U U (.cons (.tm U) U .nil) U U) U ?_;refine Ao Ar ?_;refine Aa (Ai (A4 U (.cell U U Ar U U .nil) U ?_))
   unfold unionL;rw [if_neg (by rw [show (aloneB a.Tokens 1||decide (a.Tokens=b.Tokens))=false from by rw [←h5];congr 1;exact decide_eq_decide.2 (TExpr.ext_iff'.symm)];simp),if_pos h16];rfl
 try simp at h16
 refine AW.skip (Af (Ak Ar ?_));refine Ak Ar ?_;refine Ac (A9 (ps:=[(0,.const (.int .i64 (5)))]) U U U Ci U U Da (.cons (.const U) U U Cg .nil) U) U ?_;refine Bc (Bq 2500 (specl8Join a b (tok0 5) (by omega)) U U U (.cons (.tm U) U (.cons (.tm U) U (.cons (.tm U) U .nil))) U U) U ?_;refine Ao Ar ?_;refine Aa (Ai (A4 U (.cell U U Ar U U .nil) U ?_))
 unfold unionL;rw [if_neg (by rw [show (aloneB a.Tokens 1||decide (a.Tokens=b.Tokens))=false from by rw [←h5];congr 1;exact decide_eq_decide.2 (TExpr.ext_iff'.symm)];simp),if_neg (by simp [h16])];rfl
theorem specStarExpr (a:TExpr) (hz:a.Tokens.length≤4194304):FnT Tryz.prog 89 [.agg (cExpr a)] (.a (.agg (cExpr ⟨starL a.Tokens⟩))):=by
 refine A6 Tryz.func89 U (by kernel_rfl) Tryz.ntmps89 U fun hlen w0=>?_
 try simp [cToken,cExpr] at hlen
 refine Af (Ac (Bo U U U (.tm U) (ts:=_) (by rfl)) U ?_);refine Aq (Au 2 U U U Ce U U U) U ?_;refine Aa (Ae (Af (Ak Ar ?_)));refine Bu (specl8Is _ _) ?_;refine Ab ?_;refine Ac (Ca U (by exact .not1 U U U U) U (.tmp U (by exact fun _=>rfl)) Ar U U) U ?_;refine Ac (Aw (FnT.fr (specl8Is _ _)) U (by exact .not1 U U U U) U (.cons (.tmp U (by exact id)) U (.cons (.const U) U .nil))) U ?_;refine Cj ?_;refine Aa (Ah (.tm U) (fun h9=>?_) (fun h9=>?_))
 · skip
   skip
   refine Ae (Al (Ap [0,1,2] [2]) ?_);refine Ad (Bc (Bq 1000 (specl8Leaf _) U U U (.cons (.const U) U .nil) U U) U ?_);refine Ao Ar ?_;refine Aa (Ai (A4 U (.cell U U Ar U U .nil) U ?_))
   unfold starL;rw [if_pos h9];rfl
 skip
 skip
 refine AW.skip (Ae (Ae (Al (Ap [0,1,2] [2]) ?_)));refine Ad (A8 Be ?_);refine Ak Cd ?_;refine Br (.t) Tryz.underlying24 ?_;refine AWl.gc ?_;refine Ab ?_;refine AWl.fy Be ?_;refine Cu Cd ?_;refine AWl.fy Be ?_;refine Cu Cd ?_;refine Ac (R_lenm U (by exact .yes1 U U U U) U (.tmp U (by exact id)) (by exact .t) Tryz.underlying24) U ?_;refine Ac (R_sub U (by exact .yes1 U U U U) U (.tmp U (by exact id)) (.const U) (fun hq=>by first|omega|(simp at hq;omega))) U ?_;refine Ac ((by exact An U (by exact .yes1 U U U U) U (.tmp U (by exact id)) (.tmp U (by exact id)) Tryz.underlying24 Bv (fun hq=>by (try simp at hq);exact⟨by omega,Am (f:=cToken) (getD_at (d:=tok0 0) (by omega))⟩))) U ?_;refine Ac (B9 U (by exact .yes1 U U U U) U (.tmp U (by exact id)) Co) U ?_;refine Cu ty3 ?_;refine Ac (R_eq U (by exact .yes1 U U U U) U (.tmp U (by exact id)) (.const U)) U ?_;refine Cb ?_
 refine Aa (Ah (.tm U) (fun h26=>?_) (fun h26=>?_))
 · skip
   skip
   refine Ae (Al (Ap [0,1,2] [2]) ?_);refine Ad (A8 Be ?_);refine Ak Cd ?_;refine Bc (Bq 2900 (specl8Copy _ (by omega)) U U U (.cons (.tm U) U .nil) U U) U ?_;refine Ao Ar ?_;refine Aa (Ai (A4 U (.cell U U Ar U U .nil) U ?_))
   unfold starL lastK;rw [if_neg (by rw [h9];simp),if_pos h26];rfl
 skip
 skip
 refine AW.skip (Ae (Al (Ap [0,1,2] [2]) ?_));refine Ad (A8 Be ?_);refine Ak Cd ?_;refine Bc (Bq 3200 (specl8Copy _ (by omega)) U U U (.cons (.tm U) U .nil) U U) U ?_;refine Aq (Au 3 U U U Ce U U U) U ?_;refine Ao Ar ?_;refine Aa (Af (Bd Be ?_));refine A3 Cd ?_;refine Ac (A9 (ps:=[(0,.const (.int .i64 (6)))]) U U U Ci U U Da (.cons (.const U) U U Cg .nil) U) U ?_;refine Bs (Cn (xs:=[.tmp 35]) 36 U U U (.cons (.tm U) U U .nil) Tryz.underlying24 Ci U U U U) U ?_;refine C1 (C9 U U U (.tm U) U (.tm U) U U Tryz.underlying24 Ci U (by (simp [chunk];omega)) (by (unfold maxLen;simp [chunk];omega))) U ?_;refine Bm (Ap [0,1,2,3,37] [2,3200,3]) ?_;refine Bd Be ?_;refine Ao Cd ?_;refine Aa (Af (A3 Ar ?_));refine Ao Ar ?_;refine Aa (Ai (A4 U (.cell U U Ar U U .nil) U ?_))
 unfold starL lastK;rw [if_neg (by rw [h9];simp),if_neg (by rw [h26];simp)];simp [cExpr,unflT,cToken,chunk,tok0];rfl
theorem specRepeatExpr (a:TExpr) (lo hi:Int) (hz:a.Tokens.length≤4194304):FnT Tryz.prog 145 [.agg (cExpr a),.one (.v (.int .i64 lo)),.one (.v (.int .i64 hi))] (.a (.agg (cExpr ⟨repeatL a.Tokens lo hi⟩))):=by
 refine A6 Tryz.func145 U (by kernel_rfl) Tryz.ntmps145 U fun hlen w0=>?_
 try simp [cToken,cExpr] at hlen
 refine Af (Ac (Bo U U U (.tm U) (ts:=_) (by rfl)) U ?_);refine Aq (Au 6 U U U Ce U U U) U ?_;refine Aa (Ae (Af (Ab ?_)));refine Ba ?_;refine Ab ?_;refine Cl ?_;refine Ac (R_eq U (by exact .yes1 U U U U) U (.tmp U (by exact id)) (.const U)) U ?_;refine Cb ?_;refine Aa (Ah (.tm U) (fun h13=>?_) (fun h13=>?_))
 · try simp at h13
   refine Ae (Al (Ap [0,1,2,3,6] [6]) ?_);refine Ad (Bc (Bq 1400 (specl8Leaf _) U U U (.cons (.const U) U .nil) U U) U ?_);refine Ao Ar ?_;refine Aa (Ai (A4 U (.cell U U Ar U U .nil) U ?_))
   unfold repeatL;rw [if_pos (by omega)];rfl
 try simp at h13
 refine AW.skip (Ae (Ae (Al (Ap [0,1,2,3,6] [6]) ?_)));refine Ad (Ab ?_);refine Ba ?_;refine Ab ?_;refine Cl ?_;refine Ac (R_eq U (by exact .yes1 U U U U) U (.tmp U (by exact id)) (.const U)) U ?_;refine Cb ?_;refine Aa (Ah (.tm U) (fun h20=>?_) (fun h20=>?_))
 · try simp at h20
   refine Ae (Al (Ap [0,1,2,3,6] [6]) ?_);refine Ad (A8 Be ?_);refine Ak Cd ?_;refine Bc (Bq 2300 (specl8Copy _ (by omega)) U U U (.cons (.tm U) U .nil) U U) U ?_;refine Ao Ar ?_;refine Aa (Ai (A4 U (.cell U U Ar U U .nil) U ?_))
   unfold repeatL;rw [if_neg (by omega),if_pos (by omega)];rfl
 try simp at h20
 refine AW.skip (Ae (Al (Ap [0,1,2,3,6] [6]) ?_));refine Ad (A8 Be ?_);refine Ak Cd ?_;refine Bc (Bq 2600 (specl8Copy _ (by omega)) U U U (.cons (.tm U) U .nil) U U) U ?_;refine Aq (Au 7 U U U Ce U U U) U ?_;refine Ao Ar ?_;refine Aa (Af (Bd Be ?_));refine A3 Cd ?_;refine Ab ?_;refine Ab ?_;refine Ac (A9 (ps:=[(0,.const (.int .i64 (7))),(2,.tmp 29),(3,.tmp 30)]) U U U Ci U U Da (.cons (.const U) U U Cg (.cons (.tm U) U U fp71_2 (.cons (.tm U) U U fp71_3 .nil))) U) U ?_;refine Bs (Cn (xs:=[.tmp 31]) 32 U U U (.cons (.tm U) U U .nil) Tryz.underlying24 Ci U U U U) U ?_;refine C1 (C9 U U U (.tm U) U (.tm U) U U Tryz.underlying24 Ci U (by (simp [chunk];omega)) (by (unfold maxLen;simp [chunk];omega))) U ?_;refine Bm (Ap [0,1,2,3,6,7,33] [6,2600,7]) ?_;refine Bd Be ?_;refine Ao Cd ?_;refine Aa (Af (A3 Ar ?_));refine Ao Ar ?_;refine Aa (Ai (A4 U (.cell U U Ar U U .nil) U ?_))
 unfold repeatL;rw [if_neg (by omega),if_neg (by omega)];simp [cExpr,unflT,cToken,chunk];rfl
end Go.Proofs.YtdhojcaoljhbiaaGreat
