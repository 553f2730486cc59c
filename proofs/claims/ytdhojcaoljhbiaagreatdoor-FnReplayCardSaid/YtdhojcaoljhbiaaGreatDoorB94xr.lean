import Derived.Test.YtdhojcaoljhbiaaGreatDoorB93xr
set_option linter.unusedVariables false
set_option linter.unusedSimpArgs false
set_option maxHeartbeats 1000000
set_option maxRecDepth 100000
namespace Go.Q
open Go.D
theorem ext1b (a:List UInt8):(bs a).extract 1 (bs a).size=bs (a.drop 1):=by rw [bs_extract,bs_size,List.take_of_length_le (Nat.le_refl _)]
theorem parseB_nil:parseB []=(⟨[]⟩,true):=rfl
theorem ch_dec {x:List UInt8} {b:UInt8} (hb:x[0]?=some b):decide ((b.toNat:Int)=43)=decide (x[0]?.getD 0=43):=by
 rw [hb,Option.getD_some]
 refine decide_eq_decide.2 ⟨fun h=>UInt8.toNat_inj.1 (show b.toNat=43 by omega),fun h=>by rw [h];rfl⟩
theorem chGood_yes {x:List UInt8} (h1:1≤x.length) (h2:(parseE (x.drop 1)).2=true):chGood x=true:=by unfold chGood;rw [h2,decide_eq_true h1];rfl
theorem chGood_no {x:List UInt8} (h:x.length<1∨(parseE (x.drop 1)).2=false):chGood x=false:=by
 unfold chGood
 rcases h with h|h
 · rw [decide_eq_false (by omega)];rfl
 rw [h,Bool.and_false]
theorem chGood_short {x:List UInt8} (h:x.length<2):chGood x=false:=by
 refine chGood_no ?_
 by_cases h1:x.length<1
 · exact .inl h1
 refine .inr ?_
 rw [List.drop_of_length_le (by omega)];decide
theorem three_parts {p:List (List UInt8)} (h:p.length=3):∃ a b c,p=[a,b,c]:=by
 match p,h with
 | [x,y,z],_=>exact⟨x,y,z,rfl⟩
end Go.Q
namespace Go.Proofs.YtdhojcaoljhbiaaGreatDoor
open Go.RowKit Go.Q Go.D
theorem implParseBatch (l:List UInt8) (hz:l.length≤1073741824):FnT Tryz.prog 170 [.one (.v (.string (bs l)))] (.tup [.agg (cBatch (parseB l).1),.one (.v (.bool (parseB l).2))]):=by
 have hcs:=stringsSplit (bs l) 32 (by rw [bs_size];omega)
 rw [bs_list] at hcs
 refine Bb Tryz.func170 U (by kernel_rfl) Tryz.ntmps170 U fun hlen w0=>?_
 try simp [cEdge,cChange,cBatch] at hlen
 have hsz:=bs_size l
 have hcl:=splitL_len 32 l
 have hcl2:=List.count_le_length (a:=32) (l:=l)
 refine Af (Au (Az 2 U U U Dk U U U) U ?_);refine Aj ?_;refine Aa (Af (Ac (Bw (ps:=[]) U U U Dk U U st68 .nil U) U ?_));refine Cp (i:=9) 20001 5 0 U U U ?_;refine Au (Az 4 U U U Dk U U U) U ?_;refine An Cf ?_;refine Aa (Ae (Af (Ab ?_)));refine Ac (R_eqstr U (.no U) U (.tm U) (.const U)) U ?_;refine Aa (Al (.tm U) (fun h11=>?_) (fun h11=>?_))
 · try simp at h11
   refine Af (Ai Cf ?_);refine An Cf ?_;refine Bf (Av [0,2,3,4,11] [2,20001,4]) ?_;refine Aj ?_;refine Aa (Ap (Bg U (.cell U U Cf U U (.tmp U .nil)) U ?_ (by simp)))
   have e:l=[]:=bs_inj (m:=[]) h11;rw [e,parseB_nil];rfl
 try simp at h11
 have hne:l≠[]:=(fun e=>h11 (by rw [e];rfl))
 refine Am (Ae (Af (Ab ?_)));refine Br (hcs) ?_;refine Bu (.t) Tryz.underlying102 ?_;refine Ac (Bh U (.no U) U (.const U)) U ?_;refine Aa (AW.block ?_);refine AW.loop1 (fun (k:Nat)=>(k≤(splitL 32 l).length∧(∀ j p,j<k→(splitL 32 l)[j]?=some p→chGood p=true))∧True) (fun (k:Nat)=>⟨_,[(16,(true,.a (.one (.t (.v (.int .i64 (k:Nat))))))),(0,_),(2,_),(4,_),(14,_),(15,_)],[(2,.box [.t (.v (.slice none 0 0))]),(4,.box [.rf 20001]),(20001,.row 5 ((((splitL 32 l).take k).map chOf).map cChange))]⟩) (fun (k:Nat)=>(splitL 32 l).length-k) (0) ⟨⟨Nat.zero_le _,fun j c hj=>by omega⟩,Y⟩ Ay ?_
 rintro k ⟨hk,he⟩
 refine Af (AWl.lt ?_);refine Aa (Ae (Al (.tm U) (fun h17=>?_) (fun h17=>?_)))
 · try simp at h17
   obtain⟨x,hx⟩:∃ ξ,(splitL 32 l)[k]?=some ξ:=⟨_,List.getElem?_eq_getElem (by omega)⟩
   have hxs:=bs_size x
   have hxl:=(splitL_mem (c:=32) (l:=l) (x:=x) (List.mem_of_getElem? hx)).2
   have hpe:FnT Tryz.prog 218 [.one (.v (.string ((bs x).extract 1 (bs x).size)))] (.tup [.agg (cEdge (parseE (x.drop 1)).1),.one (.v (.bool (parseE (x.drop 1)).2))]):=by (rw [ext1b];exact implParseEdge (x.drop 1) (by rw [List.length_drop];omega))
   refine Am (Ae (AW.block (Af (Ac (Aw U (.no U) U (.tm U) (.tm U) Tryz.underlying102 ty9 (fun _=>⟨by omega,(A5 hx)⟩)) U ?_))));refine A3 ty9 ?_;refine Ah ?_;refine Aa (Ae (Af (Ab ?_)));refine Ac (R_eqstr U (.no U) U (.tm U) (.const U)) U ?_;refine Aa (Al (.tm U) (fun h21=>?_) (fun h21=>?_))
   · try simp at h21
     refine Af (Ac (Bw (ps:=[]) U U U Dk U U st68 .nil U) U ?_);refine Cp (i:=22) 20002 5 0 U U U ?_;refine An Cf ?_;refine Bf (Av [0,2,4,6,14,15,16,17,21] [2,4,20001,20002]) ?_;refine Aj ?_;refine Aa (Ap (Bg U (.cell U U Cf U U (.tmp U .nil)) U ?_ (by simp)))
     rw [parseB_bad hne hx (chGood_no (.inl (by have e:x=[]:=bs_inj (m:=[]) h21;rw [e];decide)))];rfl
   try simp at h21
   have hx1:1≤x.length:=by (rcases Nat.eq_zero_or_pos x.length with h|h;(rw [List.eq_nil_of_length_eq_zero h] at h21;exact absurd rfl h21);exact h)
   obtain⟨b,hb⟩:∃ b,x[0]?=some b:=⟨_,List.getElem?_eq_getElem (by omega)⟩
   refine Am (Af (Ab ?_));refine Ac (Cl (n:=1) U (.no U) U (.tm U) (.yes (.const U) (fun _=>by first|omega|(simp<;>omega))) .no Tryz.underlying9 (fun _=>⟨by omega,by first|omega|(simp;omega)⟩)) U ?_;refine Br (hpe) ?_;refine Ac (B7 U (.no U) U U fun _=>rfl) U ?_;refine Ac (Ao U (.no U) U U (fun _=>rfl) U) U ?_;refine Ac (Ao U (.no U) U U (fun _=>rfl) U) U ?_;refine Au (Az 7 U U U C0 U U U) U ?_;refine An Ba ?_;refine Bf (Av [0,2,4,6,7,14,15,16,17,21,28] [2,4,20001,7]) ?_;refine Ah ?_;refine Aa (Ae (Af (Ab ?_)));refine Cg ?_;refine Aa (Al (.tm U) (fun h30=>?_) (fun h30=>?_))
   · try simp at h30
     refine Af (Ac (Bw (ps:=[]) U U U Dk U U st68 .nil U) U ?_);refine Cp (i:=31) 20003 5 0 U U U ?_;refine An Cf ?_;refine Bf (Av [0,2,4,6,7,8,14,15,16,17,21,30] [2,4,20001,7,20003]) ?_;refine Aj ?_;refine Aa (Ap (Bg U (.cell U U Cf U U (.tmp U .nil)) U ?_ (by simp)))
     rw [parseB_bad hne hx (chGood_no (.inr (by simpa using h30)))];rfl
   try simp at h30
   have hgood:chGood x=true:=chGood_yes hx1 (by simpa using h30)
   refine Am (AW.dagn 11 32 [[],[0],[2],[5],[0,1],[0,2],[0,5],[2,3],[2,5],[0,1,2],[0,1,5],[0,2,3],[0,2,5],[2,3,4],[2,3,5],[0,1,2,3],[0,1,2,5],[0,2,3,4],[0,2,3,5],[2,3,4,5],[0,1,2,3,4],[0,1,2,3,5],[0,2,3,4,5],[2,3,4,5,6],[0,1,2,3,4,5],[0,2,3,4,5,6],[2,3,4,5,6,7],[0,1,2,3,4,5,6],[0,2,3,4,5,6,7],[0,1,2,3,4,5,6,7],[0,1,2,3,4,5,6,7,8],[0,1,2,3,4,5,6,7,8,9],[0,1,2,3,4,5,6,7,8,9,10]] [(0,0,1),(0,2,2),(0,5,3),(1,1,4),(1,2,5),(2,0,5),(1,5,6),(3,0,6),(2,3,7),(2,5,8),(3,2,8),(4,2,9),(5,1,9),(4,5,10),(6,1,10),(5,3,11),(7,0,11),(5,5,12),(8,0,12),(6,2,12),(7,4,13),(7,5,14),(8,3,14),(9,3,15),(11,1,15),(9,5,16),(12,1,16),(10,2,16),(11,4,17),(13,0,17),(11,5,18),(14,0,18),(12,3,18),(13,5,19),(14,4,19),(15,4,20),(17,1,20),(15,5,21),(18,1,21),(16,3,21),(17,5,22),(19,0,22),(18,4,22),(19,6,23),(20,5,24),(22,1,24),(21,4,24),(22,6,25),(23,0,25),(23,7,26),(24,6,27),(25,1,27),(25,7,28),(26,0,28),(27,7,29),(28,1,29),(29,8,30),(30,9,31),(31,10,32)] (by kernel_rfl) (by kernel_rfl) (by kernel_rfl) ?_)
   apply Aq (i:=0);rfl;rfl;rfl
   · intro w9;refine A8 Bv ?_;exact Ak [0,2,4,6,7,8,14,15,16,17,21,30,32] [2,4,20001,7]
   apply Aq (i:=2);rfl;rfl;rfl
   · intro w9;refine Ab ?_;exact Ak [0,2,4,6,7,8,14,15,16,17,21,30,34] [2,4,20001,7]
   apply Aq (i:=5);rfl;rfl;rfl
   · intro w9;refine Ai Ba ?_;exact Ak [0,2,4,6,7,8,14,15,16,17,21,30,37] [2,4,20001,7]
   apply Aq (i:=1);rfl;rfl;rfl
   · intro w9;refine Ai Ct ?_;exact Ak [0,2,4,6,7,8,14,15,16,17,21,30,33] [2,4,20001,7]
   apply Aq (i:=2);rfl;rfl;rfl
   · intro w9;refine Ab ?_;exact Ak [0,2,4,6,7,8,14,15,16,17,21,30,32,34] [2,4,20001,7]
   apply Ax (i:=0);rfl;rfl;rfl
   · intro w9;refine A8 Bv ?_;exact Aa Ay
   apply Aq (i:=5);rfl;rfl;rfl
   · intro w9;refine Ai Ba ?_;exact Ak [0,2,4,6,7,8,14,15,16,17,21,30,32,37] [2,4,20001,7]
   apply Ax (i:=0);rfl;rfl;rfl
   · intro w9;refine A8 Bv ?_;exact Aa Ay
   apply Aq (i:=3);rfl;rfl;rfl
   · intro w9;refine Ac (B6 U (.no U) U (.tm U) (.const U) Tryz.underlying9 (fun _=>⟨by omega,by rw [bs_get];exact hb⟩)) U ?_;exact Ak [0,2,4,6,7,8,14,15,16,17,21,30,35] [2,4,20001,7]
   apply Aq (i:=5);rfl;rfl;rfl
   · intro w9;refine Ai Ba ?_;exact Ak [0,2,4,6,7,8,14,15,16,17,21,30,34,37] [2,4,20001,7]
   apply Ax (i:=2);rfl;rfl;rfl
   · intro w9;refine Ab ?_;exact Aa Ay
   apply Aq (i:=2);rfl;rfl;rfl
   · intro w9;refine Ab ?_;exact Ak [0,2,4,6,7,8,14,15,16,17,21,30,33,34] [2,4,20001,7]
   apply Ax (i:=1);rfl;rfl;rfl
   · intro w9;refine Ai Ct ?_;exact Aa Ay
   apply Aq (i:=5);rfl;rfl;rfl
   · intro w9;refine Ai Ba ?_;exact Ak [0,2,4,6,7,8,14,15,16,17,21,30,33,37] [2,4,20001,7]
   apply Ax (i:=1);rfl;rfl;rfl
   · intro w9;refine Ai Ct ?_;exact Aa Ay
   apply Aq (i:=3);rfl;rfl;rfl
   · intro w9;refine Ac (B6 U (.no U) U (.tm U) (.const U) Tryz.underlying9 (fun _=>⟨by omega,by rw [bs_get];exact hb⟩)) U ?_;exact Ak [0,2,4,6,7,8,14,15,16,17,21,30,32,35] [2,4,20001,7]
   apply Ax (i:=0);rfl;rfl;rfl
   · intro w9;refine A8 Bv ?_;exact Aa Ay
   apply Aq (i:=5);rfl;rfl;rfl
   · intro w9;refine Ai Ba ?_;exact Ak [0,2,4,6,7,8,14,15,16,17,21,30,32,34,37] [2,4,20001,7]
   apply Ax (i:=0);rfl;rfl;rfl
   · intro w9;refine A8 Bv ?_;exact Aa Ay
   apply Ax (i:=2);rfl;rfl;rfl
   · intro w9;refine Ab ?_;exact Aa Ay
   apply Aq (i:=4);rfl;rfl;rfl
   · intro w9;refine Ck ?_;exact Ak [0,2,4,6,7,8,14,15,16,17,21,30,36] [2,4,20001,7]
   apply Aq (i:=5);rfl;rfl;rfl
   · intro w9;refine Ai Ba ?_;exact Ak [0,2,4,6,7,8,14,15,16,17,21,30,35,37] [2,4,20001,7]
   apply Ax (i:=3);rfl;rfl;rfl
   · intro w9;refine Ac (B6 U (.no U) U (.tm U) (.const U) Tryz.underlying9 (fun _=>⟨by omega,by rw [bs_get];exact hb⟩)) U ?_;exact Aa Ay
   apply Aq (i:=3);rfl;rfl;rfl
   · intro w9;refine Ac (B6 U (.no U) U (.tm U) (.const U) Tryz.underlying9 (fun _=>⟨by omega,by rw [bs_get];exact hb⟩)) U ?_;exact Ak [0,2,4,6,7,8,14,15,16,17,21,30,33,35] [2,4,20001,7]
   apply Ax (i:=1);rfl;rfl;rfl
   · intro w9;refine Ai Ct ?_;exact Aa Ay
   apply Aq (i:=5);rfl;rfl;rfl
   · intro w9;refine Ai Ba ?_;exact Ak [0,2,4,6,7,8,14,15,16,17,21,30,33,34,37] [2,4,20001,7]
   apply Ax (i:=1);rfl;rfl;rfl
   · intro w9;refine Ai Ct ?_;exact Aa Ay
   apply Ax (i:=2);rfl;rfl;rfl
   · intro w9;refine Ab ?_;exact Aa Ay
   apply Aq (i:=4);rfl;rfl;rfl
   · intro w9;refine Ck ?_;exact Ak [0,2,4,6,7,8,14,15,16,17,21,30,32,36] [2,4,20001,7]
   apply Ax (i:=0);rfl;rfl;rfl
   · intro w9;refine A8 Bv ?_;exact Aa Ay
   apply Aq (i:=5);rfl;rfl;rfl
   · intro w9;refine Ai Ba ?_;exact Ak [0,2,4,6,7,8,14,15,16,17,21,30,32,35,37] [2,4,20001,7]
   apply Ax (i:=0);rfl;rfl;rfl
   · intro w9;refine A8 Bv ?_;exact Aa Ay
   apply Ax (i:=3);rfl;rfl;rfl
   · intro w9;refine Ac (B6 U (.no U) U (.tm U) (.const U) Tryz.underlying9 (fun _=>⟨by omega,by rw [bs_get];exact hb⟩)) U ?_;exact Aa Ay
   apply Aq (i:=5);rfl;rfl;rfl
   · intro w9;refine Ai Ba ?_;exact Ak [0,2,4,6,7,8,14,15,16,17,21,30,36,37] [2,4,20001,7]
   apply Ax (i:=4);rfl;rfl;rfl
   · intro w9;refine Ck ?_;exact Aa Ay
   apply Aq (i:=4);rfl;rfl;rfl
   · intro w9;refine Ck ?_;exact Ak [0,2,4,6,7,8,14,15,16,17,21,30,33,36] [2,4,20001,7]
   apply Ax (i:=1);rfl;rfl;rfl
   · intro w9;refine Ai Ct ?_;exact Aa Ay
   apply Aq (i:=5);rfl;rfl;rfl
   · intro w9;refine Ai Ba ?_;exact Ak [0,2,4,6,7,8,14,15,16,17,21,30,33,35,37] [2,4,20001,7]
   apply Ax (i:=1);rfl;rfl;rfl
   · intro w9;refine Ai Ct ?_;exact Aa Ay
   apply Ax (i:=3);rfl;rfl;rfl
   · intro w9;refine Ac (B6 U (.no U) U (.tm U) (.const U) Tryz.underlying9 (fun _=>⟨by omega,by rw [bs_get];exact hb⟩)) U ?_;exact Aa Ay
   apply Aq (i:=5);rfl;rfl;rfl
   · intro w9;refine Ai Ba ?_;exact Ak [0,2,4,6,7,8,14,15,16,17,21,30,32,36,37] [2,4,20001,7]
   apply Ax (i:=0);rfl;rfl;rfl
   · intro w9;refine A8 Bv ?_;exact Aa Ay
   apply Ax (i:=4);rfl;rfl;rfl
   · intro w9;refine Ck ?_;exact Aa Ay
   apply Aq (i:=6);rfl;rfl;rfl
   · intro w9;refine Ac (Bw (ps:=[(0,.tmp 36),(1,.tmp 37)]) U U U Cz U U st162 (.cons (.tm U) U U fp162_0 (.cons (.tm U) U U fp162_1 .nil)) U) U ?_;exact Ak [0,2,4,6,7,8,14,15,16,17,21,30,38] [2,4,20001,7]
   apply Aq (i:=5);rfl;rfl;rfl
   · intro w9;refine Ai Ba ?_;exact Ak [0,2,4,6,7,8,14,15,16,17,21,30,33,36,37] [2,4,20001,7]
   apply Ax (i:=1);rfl;rfl;rfl
   · intro w9;refine Ai Ct ?_;exact Aa Ay
   apply Ax (i:=4);rfl;rfl;rfl
   · intro w9;refine Ck ?_;exact Aa Ay
   apply Aq (i:=6);rfl;rfl;rfl
   · intro w9;refine Ac (Bw (ps:=[(0,.tmp 36),(1,.tmp 37)]) U U U Cz U U st162 (.cons (.tm U) U U fp162_0 (.cons (.tm U) U U fp162_1 .nil)) U) U ?_;exact Ak [0,2,4,6,7,8,14,15,16,17,21,30,32,38] [2,4,20001,7]
   apply Ax (i:=0);rfl;rfl;rfl
   · intro w9;refine A8 Bv ?_;exact Aa Ay
   apply Aq (i:=7);rfl;rfl;rfl
   · intro w9;refine Bd (B8 (xs:=[.tmp 38]) 39 U U U (.cons (.tm U) U U .nil) Tryz.underlying66 Cz U U U U) U ?_;exact Ak [0,2,4,6,7,8,14,15,16,17,21,30,39] [2,4,20001,7,39]
   apply Aq (i:=6);rfl;rfl;rfl
   · intro w9;refine Ac (Bw (ps:=[(0,.tmp 36),(1,.tmp 37)]) U U U Cz U U st162 (.cons (.tm U) U U fp162_0 (.cons (.tm U) U U fp162_1 .nil)) U) U ?_;exact Ak [0,2,4,6,7,8,14,15,16,17,21,30,33,38] [2,4,20001,7]
   apply Ax (i:=1);rfl;rfl;rfl
   · intro w9;refine Ai Ct ?_;exact Aa Ay
   apply Aq (i:=7);rfl;rfl;rfl
   · intro w9;refine Bd (B8 (xs:=[.tmp 38]) 39 U U U (.cons (.tm U) U U .nil) Tryz.underlying66 Cz U U U U) U ?_;exact Ak [0,2,4,6,7,8,14,15,16,17,21,30,32,39] [2,4,20001,7,39]
   apply Ax (i:=0);rfl;rfl;rfl
   · intro w9;refine A8 Bv ?_;exact Aa Ay
   apply Aq (i:=7);rfl;rfl;rfl
   · intro w9;refine Bd (B8 (xs:=[.tmp 38]) 39 U U U (.cons (.tm U) U U .nil) Tryz.underlying66 Cz U U U U) U ?_;exact Ak [0,2,4,6,7,8,14,15,16,17,21,30,33,39] [2,4,20001,7,39]
   apply Ax (i:=1);rfl;rfl;rfl
   · intro w9;refine Ai Ct ?_;exact Aa Ay
   apply Aq (i:=8);rfl;rfl;rfl
   · intro w9;refine Ce (Cc U U U (.tm U) U (.tm U) (by exact .rf U) (by rfl) Tryz.underlying66 Cz U (by (simp [chunk];omega)) (by (unfold maxLen;simp [chunk];omega))) U ?_;exact Ak [0,2,4,6,7,8,14,15,16,17,21,30,40] [2,4,20001,7,39]
   apply Aq (i:=9);rfl;rfl;rfl
   · intro w9;refine A8 Bv ?_;exact Ak [0,2,4,6,7,8,14,15,16,17,21,30,40,41] [2,4,20001,7,39]
   apply Aq (i:=10);rfl;rfl;rfl
   · intro w9;refine An Ct ?_;exact Ak [0,2,4,6,7,8,14,15,16,17,21,30] [2,4,20001,7,39]
   refine Dag.fin (k:=32) U ?_;refine Aa (Ad (Bs ?_));refine Ab ?_;refine Aa ?_
   repeat (with_reducible refine A7 ?_)
   refine Round1.next (k+1) ⟨⟨by omega,parts_more hk.2 hx hgood⟩,Y⟩ (by omega) (A6 rfl ⟨rfl,rfl,rfl,rfl,rfl,rfl,Y⟩ ⟨(by rfl),(by rfl),(by refine congrArg (fun r=>some (R.row 5 r)) ?_;rw [take_at hx];simp [chunk,cChange,chOf,ch_dec hb];done),Y⟩)
 try simp at h17
 refine Bt (Ae (Ae (Ar (σ':=⟨_,[(0,_),(2,_),(4,_),(14,_),(15,_),(16,_)],[(2,_),(4,_),(20001,.row 5 (((splitL 32 l).map chOf).map cChange))]⟩) (A6 U ⟨U,U,U,U,U,U,Y⟩ ⟨U,U,by rw [List.take_of_length_le (l:=splitL 32 l) (by omega)];rfl,Y⟩) ?_)));refine Ad (Ai Cf ?_);refine Br (implFormatBatch ⟨(splitL 32 l).map chOf⟩) ?_;refine Ab ?_;refine Ac (R_nestr U (.no U) U (.tm U) (.tm U)) U ?_;refine Aa (Al (.tm U) (fun h46=>?_) (fun h46=>?_))
 · try simp at h46
   refine Af (Ac (Bw (ps:=[]) U U U Dk U U st68 .nil U) U ?_);refine Cp (i:=47) 20004 5 0 U U U ?_;refine An Cf ?_;refine Bf (Av [0,2,4,14,15,16,46] [2,4,20001,20004]) ?_;refine Aj ?_;refine Aa (Ap (Bg U (.cell U U Cf U U (.tmp U .nil)) U ?_ (by simp)))
   rw [parseB_all hne (by omega) hk.2,if_neg (fun e=>h46 (by rw [e]))];rfl
 try simp at h46
 refine Am (Af (Ai Cf ?_));refine An Cf ?_;refine Bf (Av [0,2,4,14,15,16,46] [2,4,20001]) ?_;refine Aj ?_;refine Aa (Ap (Bg U (.cell U U Cf U U (.tmp U .nil)) U ?_ (by simp)))
 rw [parseB_all hne (by omega) hk.2,if_pos (bs_inj h46)];rfl
theorem specParseBatch (l:List UInt8) (hz:l.length≤1073741824):FnT Tryz.prog 131 [.one (.v (.string (bs l)))] (.tup [.agg (cBatch (parseB l).1),.one (.v (.bool (parseB l).2))]):=by
 refine Bb Tryz.func131 U (by kernel_rfl) Tryz.ntmps131 U fun hlen w0=>?_
 try simp [cEdge,cChange,cBatch] at hlen
 have hsz:=bs_size l
 have hcl:=splitL_len 32 l
 have hcl2:=List.count_le_length (a:=32) (l:=l)
 refine Af (Au (Az 2 U U U Dk U U U) U ?_);refine Aj ?_;refine Aa (Af (Ac (Bw (ps:=[]) U U U Dk U U st68 .nil U) U ?_));refine Cp (i:=9) 20001 5 0 U U U ?_;refine Au (Az 4 U U U Dk U U U) U ?_;refine An Cf ?_;refine Aa (Ae (Af (Ab ?_)));refine Ac (R_eqstr U (.no U) U (.tm U) (.const U)) U ?_;refine Aa (Al (.tm U) (fun h11=>?_) (fun h11=>?_))
 · try simp at h11
   refine Af (Ai Cf ?_);refine An Cf ?_;refine Bf (Av [0,2,3,4,11] [2,20001,4]) ?_;refine Aj ?_;refine Aa (Ap (Bg U (.cell U U Cf U U (.tmp U .nil)) U ?_ (by simp)))
   have e:l=[]:=bs_inj (m:=[]) h11;rw [e,parseB_nil];rfl
 try simp at h11
 have hne:l≠[]:=(fun e=>h11 (by rw [e];rfl))
 refine Am (Af (Ab ?_));refine Br (specl2Cut l 32 hz) ?_;refine Ah ?_;refine Aa (Ae (Af (Aj ?_)));refine Aa (AW.block ?_);refine AW.loop1 (fun (k:Nat)=>((k≤(splitL 32 l).length∧k≤7)∧(∀ j p,j<k→(splitL 32 l)[j]?=some p→chGood p=true))∧True) (fun (k:Nat)=>⟨_,[(6,(true,.a (.one (.t (.v (.int .i64 (k:Nat))))))),(0,_),(2,_),(4,_),(5,_)],[(2,.box [.t (.v (.slice none 0 0))]),(4,.box [.rf 20001]),(20001,.row 5 ((((splitL 32 l).take k).map chOf).map cChange))]⟩) (fun (k:Nat)=>(splitL 32 l).length-k) (0) ⟨⟨⟨Nat.zero_le _,by omega⟩,fun j c hj=>by omega⟩,Y⟩ Ay ?_
 rintro k ⟨hk,he⟩
 refine Ae (Af (Ab ?_));refine Ab ?_;refine Bu (.t) Tryz.underlying102 ?_;refine AWl.lt ?_;refine Ab ?_;refine Da ?_;refine Ac (R_le U (by exact .yes1 U U U U) U (.tmp U (by exact id)) (.const U)) U ?_;refine C1 ?_;refine Aa (Al (.tm U) (fun h22=>?_) (fun h22=>?_))
 · try simp at h22
   obtain⟨x,hx⟩:∃ ξ,(splitL 32 l)[k]?=some ξ:=⟨_,List.getElem?_eq_getElem (by omega)⟩
   have hxs:=bs_size x
   have hxl:=(splitL_mem (c:=32) (l:=l) (x:=x) (List.mem_of_getElem? hx)).2
   have hpe:FnT Tryz.prog 176 [.one (.v (.string ((bs x).extract 1 (bs x).size)))] (.tup [.agg (cEdge (parseE (x.drop 1)).1),.one (.v (.bool (parseE (x.drop 1)).2))]):=by (rw [ext1b];exact specParseEdge (x.drop 1) (by rw [List.length_drop];omega))
   refine Am (Ae (AW.block (Ae (Ae (Ar (Av [0,2,4,5,6] [2,4,20001]) ?_)))));refine Ad (Ab ?_);refine Ab ?_;refine Ac (Aw U (.no U) U (.tm U) (.tm U) Tryz.underlying102 ty9 (fun _=>⟨by omega,(A5 hx)⟩)) U ?_;refine A3 ty9 ?_;refine Ac (C4 U (.no U) U (.tm U) Tryz.underlying9) U ?_;refine AWl.lc ?_;refine Aa (Al (.tm U) (fun h30=>?_) (fun h30=>?_))
   · try simp at h30
     refine Ae (Ar (Av [0,2,4,5,6] [2,4,20001]) ?_);refine Ad (Ac (Bw (ps:=[]) U U U Dk U U st68 .nil U) U ?_);refine Cp (i:=31) 20002 5 0 U U U ?_;refine An Cf ?_;refine Bf (Av [0,2,4,5,6] [2,4,20001,20002]) ?_;refine Aj ?_;refine Aa (Ap (Bg U (.cell U U Cf U U (.tmp U .nil)) U ?_ (by simp)))
     rw [parseB_bad hne hx (chGood_short (by omega))];rfl
   try simp at h30
   have hx1:1≤x.length:=by (first|omega|(simp at h30;omega))
   obtain⟨b,hb⟩:∃ b,x[0]?=some b:=⟨_,List.getElem?_eq_getElem (by omega)⟩
   refine Am (Ae (Ar (Av [0,2,4,5,6] [2,4,20001]) ?_));refine Ad (Ab ?_);refine Ab ?_;refine Ac (Aw U (.no U) U (.tm U) (.tm U) Tryz.underlying102 ty9 (fun _=>⟨by omega,(A5 hx)⟩)) U ?_;refine A3 ty9 ?_;refine Ac (Cl (n:=1) U (.no U) U (.tm U) (.yes (.const U) (fun _=>by first|omega|(simp<;>omega))) .no Tryz.underlying9 (fun _=>⟨by omega,by first|omega|(simp;omega)⟩)) U ?_;refine Br (hpe) ?_;refine Ac (B7 U (.no U) U U fun _=>rfl) U ?_;refine Ac (Ao U (.no U) U U (fun _=>rfl) U) U ?_;refine Ac (Ao U (.no U) U U (fun _=>rfl) U) U ?_;refine Au (Az 7 U U U C0 U U U) U ?_;refine An Ba ?_;refine Bf (Av [0,2,4,5,6,7,40] [2,4,20001,7]) ?_;refine Ah ?_;refine Aa (Ae (Af (Ab ?_)));refine Cg ?_;refine Aa (Al (.tm U) (fun h42=>?_) (fun h42=>?_))
   · try simp at h42
     refine Af (Ac (Bw (ps:=[]) U U U Dk U U st68 .nil U) U ?_);refine Cp (i:=43) 20003 5 0 U U U ?_;refine An Cf ?_;refine Bf (Av [0,2,4,5,6,7,8,42] [2,4,20001,7,20003]) ?_;refine Aj ?_;refine Aa (Ap (Bg U (.cell U U Cf U U (.tmp U .nil)) U ?_ (by simp)))
     rw [parseB_bad hne hx (chGood_no (.inr (by simpa using h42)))];rfl
   try simp at h42
   have hgood:chGood x=true:=chGood_yes hx1 (by simpa using h42)
   refine Am (AW.dagn 14 56 [[],[0],[2],[3],[8],[0,1],[0,2],[0,3],[0,8],[2,3],[2,8],[3,8],[0,1,2],[0,1,3],[0,1,8],[0,2,3],[0,2,8],[0,3,8],[2,3,4],[2,3,8],[0,1,2,3],[0,1,2,8],[0,1,3,8],[0,2,3,4],[0,2,3,8],[2,3,4,5],[2,3,4,8],[0,1,2,3,4],[0,1,2,3,8],[0,2,3,4,5],[0,2,3,4,8],[2,3,4,5,6],[2,3,4,5,8],[0,1,2,3,4,5],[0,1,2,3,4,8],[0,2,3,4,5,6],[0,2,3,4,5,8],[2,3,4,5,6,7],[2,3,4,5,6,8],[0,1,2,3,4,5,6],[0,1,2,3,4,5,8],[0,2,3,4,5,6,7],[0,2,3,4,5,6,8],[2,3,4,5,6,7,8],[0,1,2,3,4,5,6,7],[0,1,2,3,4,5,6,8],[0,2,3,4,5,6,7,8],[2,3,4,5,6,7,8,9],[0,1,2,3,4,5,6,7,8],[0,2,3,4,5,6,7,8,9],[2,3,4,5,6,7,8,9,10],[0,1,2,3,4,5,6,7,8,9],[0,2,3,4,5,6,7,8,9,10],[0,1,2,3,4,5,6,7,8,9,10],[0,1,2,3,4,5,6,7,8,9,10,11],[0,1,2,3,4,5,6,7,8,9,10,11,12],[0,1,2,3,4,5,6,7,8,9,10,11,12,13]] [(0,0,1),(0,2,2),(0,3,3),(0,8,4),(1,1,5),(1,2,6),(2,0,6),(1,3,7),(3,0,7),(1,8,8),(4,0,8),(2,3,9),(3,2,9),(2,8,10),(4,2,10),(3,8,11),(4,3,11),(5,2,12),(6,1,12),(5,3,13),(7,1,13),(5,8,14),(8,1,14),(6,3,15),(9,0,15),(7,2,15),(6,8,16),(10,0,16),(8,2,16),(7,8,17),(11,0,17),(8,3,17),(9,4,18),(9,8,19),(11,2,19),(10,3,19),(12,3,20),(15,1,20),(13,2,20),(12,8,21),(16,1,21),(14,2,21),(13,8,22),(17,1,22),(14,3,22),(15,4,23),(18,0,23),(15,8,24),(19,0,24),(17,2,24),(16,3,24),(18,5,25),(18,8,26),(19,4,26),(20,4,27),(23,1,27),(20,8,28),(24,1,28),(22,2,28),(21,3,28),(23,5,29),(25,0,29),(23,8,30),(26,0,30),(24,4,30),(25,6,31),(25,8,32),(26,5,32),(27,5,33),(29,1,33),(27,8,34),(30,1,34),(28,4,34),(29,6,35),(31,0,35),(29,8,36),(32,0,36),(30,5,36),(31,7,37),(31,8,38),(32,6,38),(33,6,39),(35,1,39),(33,8,40),(36,1,40),(34,5,40),(35,7,41),(37,0,41),(35,8,42),(38,0,42),(36,6,42),(37,8,43),(38,7,43),(39,7,44),(41,1,44),(39,8,45),(42,1,45),(40,6,45),(41,8,46),(43,0,46),(42,7,46),(43,9,47),(44,8,48),(46,1,48),(45,7,48),(46,9,49),(47,0,49),(47,10,50),(48,9,51),(49,1,51),(49,10,52),(50,0,52),(51,10,53),(52,1,53),(53,11,54),(54,12,55),(55,13,56)] (by kernel_rfl) (by kernel_rfl) (by kernel_rfl) ?_)
   apply Aq (i:=0);rfl;rfl;rfl
   · intro w9;refine A8 Bv ?_;exact Ak [0,2,4,5,6,7,8,42,44] [2,4,20001,7]
   apply Aq (i:=2);rfl;rfl;rfl
   · intro w9;refine Ab ?_;exact Ak [0,2,4,5,6,7,8,42,46] [2,4,20001,7]
   apply Aq (i:=3);rfl;rfl;rfl
   · intro w9;refine Ab ?_;exact Ak [0,2,4,5,6,7,8,42,47] [2,4,20001,7]
   apply Aq (i:=8);rfl;rfl;rfl
   · intro w9;refine Ai Ba ?_;exact Ak [0,2,4,5,6,7,8,42,52] [2,4,20001,7]
   apply Aq (i:=1);rfl;rfl;rfl
   · intro w9;refine Ai Ct ?_;exact Ak [0,2,4,5,6,7,8,42,45] [2,4,20001,7]
   apply Aq (i:=2);rfl;rfl;rfl
   · intro w9;refine Ab ?_;exact Ak [0,2,4,5,6,7,8,42,44,46] [2,4,20001,7]
   apply Ax (i:=0);rfl;rfl;rfl
   · intro w9;refine A8 Bv ?_;exact Aa Ay
   apply Aq (i:=3);rfl;rfl;rfl
   · intro w9;refine Ab ?_;exact Ak [0,2,4,5,6,7,8,42,44,47] [2,4,20001,7]
   apply Ax (i:=0);rfl;rfl;rfl
   · intro w9;refine A8 Bv ?_;exact Aa Ay
   apply Aq (i:=8);rfl;rfl;rfl
   · intro w9;refine Ai Ba ?_;exact Ak [0,2,4,5,6,7,8,42,44,52] [2,4,20001,7]
   apply Ax (i:=0);rfl;rfl;rfl
   · intro w9;refine A8 Bv ?_;exact Aa Ay
   apply Aq (i:=3);rfl;rfl;rfl
   · intro w9;refine Ab ?_;exact Ak [0,2,4,5,6,7,8,42,46,47] [2,4,20001,7]
   apply Ax (i:=2);rfl;rfl;rfl
   · intro w9;refine Ab ?_;exact Aa Ay
   apply Aq (i:=8);rfl;rfl;rfl
   · intro w9;refine Ai Ba ?_;exact Ak [0,2,4,5,6,7,8,42,46,52] [2,4,20001,7]
   apply Ax (i:=2);rfl;rfl;rfl
   · intro w9;refine Ab ?_;exact Aa Ay
   apply Aq (i:=8);rfl;rfl;rfl
   · intro w9;refine Ai Ba ?_;exact Ak [0,2,4,5,6,7,8,42,47,52] [2,4,20001,7]
   apply Ax (i:=3);rfl;rfl;rfl
   · intro w9;refine Ab ?_;exact Aa Ay
   apply Aq (i:=2);rfl;rfl;rfl
   · intro w9;refine Ab ?_;exact Ak [0,2,4,5,6,7,8,42,45,46] [2,4,20001,7]
   apply Ax (i:=1);rfl;rfl;rfl
   · intro w9;refine Ai Ct ?_;exact Aa Ay
   apply Aq (i:=3);rfl;rfl;rfl
   · intro w9;refine Ab ?_;exact Ak [0,2,4,5,6,7,8,42,45,47] [2,4,20001,7]
   apply Ax (i:=1);rfl;rfl;rfl
   · intro w9;refine Ai Ct ?_;exact Aa Ay
   apply Aq (i:=8);rfl;rfl;rfl
   · intro w9;refine Ai Ba ?_;exact Ak [0,2,4,5,6,7,8,42,45,52] [2,4,20001,7]
   apply Ax (i:=1);rfl;rfl;rfl
   · intro w9;refine Ai Ct ?_;exact Aa Ay
   apply Aq (i:=3);rfl;rfl;rfl
   · intro w9;refine Ab ?_;exact Ak [0,2,4,5,6,7,8,42,44,46,47] [2,4,20001,7]
   apply Ax (i:=0);rfl;rfl;rfl
   · intro w9;refine A8 Bv ?_;exact Aa Ay
   apply Ax (i:=2);rfl;rfl;rfl
   · intro w9;refine Ab ?_;exact Aa Ay
   apply Aq (i:=8);rfl;rfl;rfl
   · intro w9;refine Ai Ba ?_;exact Ak [0,2,4,5,6,7,8,42,44,46,52] [2,4,20001,7]
   apply Ax (i:=0);rfl;rfl;rfl
   · intro w9;refine A8 Bv ?_;exact Aa Ay
   apply Ax (i:=2);rfl;rfl;rfl
   · intro w9;refine Ab ?_;exact Aa Ay
   apply Aq (i:=8);rfl;rfl;rfl
   · intro w9;refine Ai Ba ?_;exact Ak [0,2,4,5,6,7,8,42,44,47,52] [2,4,20001,7]
   apply Ax (i:=0);rfl;rfl;rfl
   · intro w9;refine A8 Bv ?_;exact Aa Ay
   apply Ax (i:=3);rfl;rfl;rfl
   · intro w9;refine Ab ?_;exact Aa Ay
   apply Aq (i:=4);rfl;rfl;rfl
   · intro w9;refine Ac (Aw U (.no U) U (.tm U) (.tm U) Tryz.underlying102 ty9 (fun _=>⟨by omega,(A5 hx)⟩)) U ?_;exact Ak [0,2,4,5,6,7,8,42,48] [2,4,20001,7]
   apply Aq (i:=8);rfl;rfl;rfl
   · intro w9;refine Ai Ba ?_;exact Ak [0,2,4,5,6,7,8,42,46,47,52] [2,4,20001,7]
   apply Ax (i:=2);rfl;rfl;rfl
   · intro w9;refine Ab ?_;exact Aa Ay
   apply Ax (i:=3);rfl;rfl;rfl
   · intro w9;refine Ab ?_;exact Aa Ay
   apply Aq (i:=3);rfl;rfl;rfl
   · intro w9;refine Ab ?_;exact Ak [0,2,4,5,6,7,8,42,45,46,47] [2,4,20001,7]
   apply Ax (i:=1);rfl;rfl;rfl
   · intro w9;refine Ai Ct ?_;exact Aa Ay
   apply Ax (i:=2);rfl;rfl;rfl
   · intro w9;refine Ab ?_;exact Aa Ay
   apply Aq (i:=8);rfl;rfl;rfl
   · intro w9;refine Ai Ba ?_;exact Ak [0,2,4,5,6,7,8,42,45,46,52] [2,4,20001,7]
   apply Ax (i:=1);rfl;rfl;rfl
   · intro w9;refine Ai Ct ?_;exact Aa Ay
   apply Ax (i:=2);rfl;rfl;rfl
   · intro w9;refine Ab ?_;exact Aa Ay
   apply Aq (i:=8);rfl;rfl;rfl
   · intro w9;refine Ai Ba ?_;exact Ak [0,2,4,5,6,7,8,42,45,47,52] [2,4,20001,7]
   apply Ax (i:=1);rfl;rfl;rfl
   · intro w9;refine Ai Ct ?_;exact Aa Ay
   apply Ax (i:=3);rfl;rfl;rfl
   · intro w9;refine Ab ?_;exact Aa Ay
   apply Aq (i:=4);rfl;rfl;rfl
   · intro w9;refine Ac (Aw U (.no U) U (.tm U) (.tm U) Tryz.underlying102 ty9 (fun _=>⟨by omega,(A5 hx)⟩)) U ?_;exact Ak [0,2,4,5,6,7,8,42,44,48] [2,4,20001,7]
   apply Ax (i:=0);rfl;rfl;rfl
   · intro w9;refine A8 Bv ?_;exact Aa Ay
   apply Aq (i:=8);rfl;rfl;rfl
   · intro w9;refine Ai Ba ?_;exact Ak [0,2,4,5,6,7,8,42,44,46,47,52] [2,4,20001,7]
   apply Ax (i:=0);rfl;rfl;rfl
   · intro w9;refine A8 Bv ?_;exact Aa Ay
   apply Ax (i:=2);rfl;rfl;rfl
   · intro w9;refine Ab ?_;exact Aa Ay
   apply Ax (i:=3);rfl;rfl;rfl
   · intro w9;refine Ab ?_;exact Aa Ay
   apply Aq (i:=5);rfl;rfl;rfl
   · intro w9;refine A3 ty9 ?_;exact Ak [0,2,4,5,6,7,8,42,49] [2,4,20001,7]
   apply Aq (i:=8);rfl;rfl;rfl
   · intro w9;refine Ai Ba ?_;exact Ak [0,2,4,5,6,7,8,42,48,52] [2,4,20001,7]
   apply Ax (i:=4);rfl;rfl;rfl
   · intro w9;refine Ac (Aw U (.no U) U (.tm U) (.tm U) Tryz.underlying102 ty9 (fun _=>⟨by omega,(A5 hx)⟩)) U ?_;exact Aa Ay
   apply Aq (i:=4);rfl;rfl;rfl
   · intro w9;refine Ac (Aw U (.no U) U (.tm U) (.tm U) Tryz.underlying102 ty9 (fun _=>⟨by omega,(A5 hx)⟩)) U ?_;exact Ak [0,2,4,5,6,7,8,42,45,48] [2,4,20001,7]
   apply Ax (i:=1);rfl;rfl;rfl
   · intro w9;refine Ai Ct ?_;exact Aa Ay
   apply Aq (i:=8);rfl;rfl;rfl
   · intro w9;refine Ai Ba ?_;exact Ak [0,2,4,5,6,7,8,42,45,46,47,52] [2,4,20001,7]
   apply Ax (i:=1);rfl;rfl;rfl
   · intro w9;refine Ai Ct ?_;exact Aa Ay
   apply Ax (i:=2);rfl;rfl;rfl
   · intro w9;refine Ab ?_;exact Aa Ay
   apply Ax (i:=3);rfl;rfl;rfl
   · intro w9;refine Ab ?_;exact Aa Ay
   apply Aq (i:=5);rfl;rfl;rfl
   · intro w9;refine A3 ty9 ?_;exact Ak [0,2,4,5,6,7,8,42,44,49] [2,4,20001,7]
   apply Ax (i:=0);rfl;rfl;rfl
   · intro w9;refine A8 Bv ?_;exact Aa Ay
   apply Aq (i:=8);rfl;rfl;rfl
   · intro w9;refine Ai Ba ?_;exact Ak [0,2,4,5,6,7,8,42,44,48,52] [2,4,20001,7]
   apply Ax (i:=0);rfl;rfl;rfl
   · intro w9;refine A8 Bv ?_;exact Aa Ay
   apply Ax (i:=4);rfl;rfl;rfl
   · intro w9;refine Ac (Aw U (.no U) U (.tm U) (.tm U) Tryz.underlying102 ty9 (fun _=>⟨by omega,(A5 hx)⟩)) U ?_;exact Aa Ay
   apply Aq (i:=6);rfl;rfl;rfl
   · intro w9;refine Ac (B6 U (.no U) U (.tm U) (.const U) Tryz.underlying9 (fun _=>⟨by omega,by rw [bs_get];exact hb⟩)) U ?_;exact Ak [0,2,4,5,6,7,8,42,50] [2,4,20001,7]
   apply Aq (i:=8);rfl;rfl;rfl
   · intro w9;refine Ai Ba ?_;exact Ak [0,2,4,5,6,7,8,42,49,52] [2,4,20001,7]
   apply Ax (i:=5);rfl;rfl;rfl
   · intro w9;refine A3 ty9 ?_;exact Aa Ay
   apply Aq (i:=5);rfl;rfl;rfl
   · intro w9;refine A3 ty9 ?_;exact Ak [0,2,4,5,6,7,8,42,45,49] [2,4,20001,7]
   apply Ax (i:=1);rfl;rfl;rfl
   · intro w9;refine Ai Ct ?_;exact Aa Ay
   apply Aq (i:=8);rfl;rfl;rfl
   · intro w9;refine Ai Ba ?_;exact Ak [0,2,4,5,6,7,8,42,45,48,52] [2,4,20001,7]
   apply Ax (i:=1);rfl;rfl;rfl
   · intro w9;refine Ai Ct ?_;exact Aa Ay
   apply Ax (i:=4);rfl;rfl;rfl
   · intro w9;refine Ac (Aw U (.no U) U (.tm U) (.tm U) Tryz.underlying102 ty9 (fun _=>⟨by omega,(A5 hx)⟩)) U ?_;exact Aa Ay
   apply Aq (i:=6);rfl;rfl;rfl
   · intro w9;refine Ac (B6 U (.no U) U (.tm U) (.const U) Tryz.underlying9 (fun _=>⟨by omega,by rw [bs_get];exact hb⟩)) U ?_;exact Ak [0,2,4,5,6,7,8,42,44,50] [2,4,20001,7]
   apply Ax (i:=0);rfl;rfl;rfl
   · intro w9;refine A8 Bv ?_;exact Aa Ay
   apply Aq (i:=8);rfl;rfl;rfl
   · intro w9;refine Ai Ba ?_;exact Ak [0,2,4,5,6,7,8,42,44,49,52] [2,4,20001,7]
   apply Ax (i:=0);rfl;rfl;rfl
   · intro w9;refine A8 Bv ?_;exact Aa Ay
   apply Ax (i:=5);rfl;rfl;rfl
   · intro w9;refine A3 ty9 ?_;exact Aa Ay
   apply Aq (i:=7);rfl;rfl;rfl
   · intro w9;refine Ck ?_;exact Ak [0,2,4,5,6,7,8,42,51] [2,4,20001,7]
   apply Aq (i:=8);rfl;rfl;rfl
   · intro w9;refine Ai Ba ?_;exact Ak [0,2,4,5,6,7,8,42,50,52] [2,4,20001,7]
   apply Ax (i:=6);rfl;rfl;rfl
   · intro w9;refine Ac (B6 U (.no U) U (.tm U) (.const U) Tryz.underlying9 (fun _=>⟨by omega,by rw [bs_get];exact hb⟩)) U ?_;exact Aa Ay
   apply Aq (i:=6);rfl;rfl;rfl
   · intro w9;refine Ac (B6 U (.no U) U (.tm U) (.const U) Tryz.underlying9 (fun _=>⟨by omega,by rw [bs_get];exact hb⟩)) U ?_;exact Ak [0,2,4,5,6,7,8,42,45,50] [2,4,20001,7]
   apply Ax (i:=1);rfl;rfl;rfl
   · intro w9;refine Ai Ct ?_;exact Aa Ay
   apply Aq (i:=8);rfl;rfl;rfl
   · intro w9;refine Ai Ba ?_;exact Ak [0,2,4,5,6,7,8,42,45,49,52] [2,4,20001,7]
   apply Ax (i:=1);rfl;rfl;rfl
   · intro w9;refine Ai Ct ?_;exact Aa Ay
   apply Ax (i:=5);rfl;rfl;rfl
   · intro w9;refine A3 ty9 ?_;exact Aa Ay
   apply Aq (i:=7);rfl;rfl;rfl
   · intro w9;refine Ck ?_;exact Ak [0,2,4,5,6,7,8,42,44,51] [2,4,20001,7]
   apply Ax (i:=0);rfl;rfl;rfl
   · intro w9;refine A8 Bv ?_;exact Aa Ay
   apply Aq (i:=8);rfl;rfl;rfl
   · intro w9;refine Ai Ba ?_;exact Ak [0,2,4,5,6,7,8,42,44,50,52] [2,4,20001,7]
   apply Ax (i:=0);rfl;rfl;rfl
   · intro w9;refine A8 Bv ?_;exact Aa Ay
   apply Ax (i:=6);rfl;rfl;rfl
   · intro w9;refine Ac (B6 U (.no U) U (.tm U) (.const U) Tryz.underlying9 (fun _=>⟨by omega,by rw [bs_get];exact hb⟩)) U ?_;exact Aa Ay
   apply Aq (i:=8);rfl;rfl;rfl
   · intro w9;refine Ai Ba ?_;exact Ak [0,2,4,5,6,7,8,42,51,52] [2,4,20001,7]
   apply Ax (i:=7);rfl;rfl;rfl
   · intro w9;refine Ck ?_;exact Aa Ay
   apply Aq (i:=7);rfl;rfl;rfl
   · intro w9;refine Ck ?_;exact Ak [0,2,4,5,6,7,8,42,45,51] [2,4,20001,7]
   apply Ax (i:=1);rfl;rfl;rfl
   · intro w9;refine Ai Ct ?_;exact Aa Ay
   apply Aq (i:=8);rfl;rfl;rfl
   · intro w9;refine Ai Ba ?_;exact Ak [0,2,4,5,6,7,8,42,45,50,52] [2,4,20001,7]
   apply Ax (i:=1);rfl;rfl;rfl
   · intro w9;refine Ai Ct ?_;exact Aa Ay
   apply Ax (i:=6);rfl;rfl;rfl
   · intro w9;refine Ac (B6 U (.no U) U (.tm U) (.const U) Tryz.underlying9 (fun _=>⟨by omega,by rw [bs_get];exact hb⟩)) U ?_;exact Aa Ay
   apply Aq (i:=8);rfl;rfl;rfl
   · intro w9;refine Ai Ba ?_;exact Ak [0,2,4,5,6,7,8,42,44,51,52] [2,4,20001,7]
   apply Ax (i:=0);rfl;rfl;rfl
   · intro w9;refine A8 Bv ?_;exact Aa Ay
   apply Ax (i:=7);rfl;rfl;rfl
   · intro w9;refine Ck ?_;exact Aa Ay
   apply Aq (i:=9);rfl;rfl;rfl
   · intro w9;refine Ac (Bw (ps:=[(0,.tmp 51),(1,.tmp 52)]) U U U Cz U U st162 (.cons (.tm U) U U fp162_0 (.cons (.tm U) U U fp162_1 .nil)) U) U ?_;exact Ak [0,2,4,5,6,7,8,42,53] [2,4,20001,7]
   apply Aq (i:=8);rfl;rfl;rfl
   · intro w9;refine Ai Ba ?_;exact Ak [0,2,4,5,6,7,8,42,45,51,52] [2,4,20001,7]
   apply Ax (i:=1);rfl;rfl;rfl
   · intro w9;refine Ai Ct ?_;exact Aa Ay
   apply Ax (i:=7);rfl;rfl;rfl
   · intro w9;refine Ck ?_;exact Aa Ay
   apply Aq (i:=9);rfl;rfl;rfl
   · intro w9;refine Ac (Bw (ps:=[(0,.tmp 51),(1,.tmp 52)]) U U U Cz U U st162 (.cons (.tm U) U U fp162_0 (.cons (.tm U) U U fp162_1 .nil)) U) U ?_;exact Ak [0,2,4,5,6,7,8,42,44,53] [2,4,20001,7]
   apply Ax (i:=0);rfl;rfl;rfl
   · intro w9;refine A8 Bv ?_;exact Aa Ay
   apply Aq (i:=10);rfl;rfl;rfl
   · intro w9;refine Bd (B8 (xs:=[.tmp 53]) 54 U U U (.cons (.tm U) U U .nil) Tryz.underlying66 Cz U U U U) U ?_;exact Ak [0,2,4,5,6,7,8,42,54] [2,4,20001,7,54]
   apply Aq (i:=9);rfl;rfl;rfl
   · intro w9;refine Ac (Bw (ps:=[(0,.tmp 51),(1,.tmp 52)]) U U U Cz U U st162 (.cons (.tm U) U U fp162_0 (.cons (.tm U) U U fp162_1 .nil)) U) U ?_;exact Ak [0,2,4,5,6,7,8,42,45,53] [2,4,20001,7]
   apply Ax (i:=1);rfl;rfl;rfl
   · intro w9;refine Ai Ct ?_;exact Aa Ay
   apply Aq (i:=10);rfl;rfl;rfl
   · intro w9;refine Bd (B8 (xs:=[.tmp 53]) 54 U U U (.cons (.tm U) U U .nil) Tryz.underlying66 Cz U U U U) U ?_;exact Ak [0,2,4,5,6,7,8,42,44,54] [2,4,20001,7,54]
   apply Ax (i:=0);rfl;rfl;rfl
   · intro w9;refine A8 Bv ?_;exact Aa Ay
   apply Aq (i:=10);rfl;rfl;rfl
   · intro w9;refine Bd (B8 (xs:=[.tmp 53]) 54 U U U (.cons (.tm U) U U .nil) Tryz.underlying66 Cz U U U U) U ?_;exact Ak [0,2,4,5,6,7,8,42,45,54] [2,4,20001,7,54]
   apply Ax (i:=1);rfl;rfl;rfl
   · intro w9;refine Ai Ct ?_;exact Aa Ay
   apply Aq (i:=11);rfl;rfl;rfl
   · intro w9;refine Ce (Cc U U U (.tm U) U (.tm U) (by exact .rf U) (by rfl) Tryz.underlying66 Cz U (by (simp [chunk];omega)) (by (unfold maxLen;simp [chunk];omega))) U ?_;exact Ak [0,2,4,5,6,7,8,42,55] [2,4,20001,7,54]
   apply Aq (i:=12);rfl;rfl;rfl
   · intro w9;refine A8 Bv ?_;exact Ak [0,2,4,5,6,7,8,42,55,56] [2,4,20001,7,54]
   apply Aq (i:=13);rfl;rfl;rfl
   · intro w9;refine An Ct ?_;exact Ak [0,2,4,5,6,7,8,42] [2,4,20001,7,54]
   refine Dag.fin (k:=56) U ?_;refine Aa (Ad (Ab ?_));refine Bs ?_;refine Ah ?_;refine Aa ?_
   repeat (with_reducible refine A7 ?_)
   refine Round1.next (k+1) ⟨⟨⟨by omega,by omega⟩,parts_more hk.2 hx hgood⟩,Y⟩ (by omega) (A6 rfl ⟨rfl,rfl,rfl,rfl,rfl,Y⟩ ⟨(by rfl),(by rfl),(by refine congrArg (fun r=>some (R.row 5 r)) ?_;rw [take_at hx];simp [chunk,cChange,chOf,ch_dec hb];done),Y⟩)
 try simp at h22
 refine Bt (Ae (Ae (Ar (Av [0,2,4,5,6] [2,4,20001]) ?_)));refine Ad (Ai Cf ?_);refine Br (specFormatBatch ⟨((splitL 32 l).take k).map chOf⟩) ?_;refine Ab ?_;refine Ac (R_nestr U (.no U) U (.tm U) (.tm U)) U ?_;refine Aa (Al (.tm U) (fun h60=>?_) (fun h60=>?_))
 · try simp at h60
   refine Af (Ac (Bw (ps:=[]) U U U Dk U U st68 .nil U) U ?_);refine Cp (i:=61) 20004 5 0 U U U ?_;refine An Cf ?_;refine Bf (Av [0,2,4,5,6,60] [2,4,20001,20004]) ?_;refine Aj ?_;refine Aa (Ap (Bg U (.cell U U Cf U U (.tmp U .nil)) U ?_ (by simp)))
   rw [←List.map_take] at h60;rw [parseB_seven (k:=k) hne (by omega) hk.2,if_neg (fun e=>h60 (by rw [e]))];rfl
 try simp at h60
 refine Am (Af (Ai Cf ?_));refine An Cf ?_;refine Bf (Av [0,2,4,5,6,60] [2,4,20001]) ?_;refine Aj ?_;refine Aa (Ap (Bg U (.cell U U Cf U U (.tmp U .nil)) U ?_ (by simp)))
 rw [←List.map_take] at h60;rw [parseB_seven (k:=k) hne (by omega) hk.2,if_pos (bs_inj h60)];rfl
theorem implDecodeRecordL (l:List UInt8) (hz:l.length≤1073741824):FnT Tryz.prog 125 [.one (.v (.string (bs l)))] (.tup [.one (.v (.int .i64 (recV l))),.agg (cBatch (recB l)),.one (.v (.bool (recG l)))]):=by
 have hcs:=stringsSplit (bs l) 59 (by rw [bs_size];omega)
 rw [bs_list] at hcs
 refine Bb Tryz.func125 U (by kernel_rfl) Tryz.ntmps125 U fun hlen w0=>?_
 try simp [cEdge,cChange,cBatch] at hlen
 refine Af (Aj ?_);refine Au (Az 3 U U U Dk U U U) U ?_;refine Aj ?_;refine Aa (Af (Ab ?_));refine Br (hcs) ?_;refine Ah ?_;refine Aa (Ae (Af (Ab ?_)));refine Bu (.t) Tryz.underlying102 ?_;refine AWl.nc ?_;refine Aa (Al (.tm U) (fun h14=>?_) (fun h14=>?_))
 · try simp at h14
   refine Af (Ac (Bw (ps:=[]) U U U Dk U U st68 .nil U) U ?_);refine Cp (i:=15) 20001 5 0 U U U ?_;refine Aj ?_;refine An Cf ?_;refine Bf (Av [0,2,3,4,5,14] [3,20001]) ?_;refine Aj ?_;refine Aa (Ap (Bg U (.tmp U (.cell U U Cf U U (.tmp U .nil))) U ?_ (by simp)))
   have hn:=rec_not3 (l:=l) (by omega);rw [(rec_none hn).1,(rec_none hn).2,hn];rfl
 try simp at h14
 obtain⟨a,b,c,hs⟩:=three_parts (p:=splitL 59 l) (by omega)
 have hx0:(splitL 59 l)[0]?=some a:=by rw [hs];rfl
 have hx1:(splitL 59 l)[1]?=some b:=by rw [hs];rfl
 have hbl:=(splitL_mem (c:=59) (l:=l) (x:=b) (List.mem_of_getElem? hx1)).2
 have hal:=(splitL_mem (c:=59) (l:=l) (x:=a) (List.mem_of_getElem? hx0)).2
 refine Am (Af (Ab ?_));refine Ac (Aw U (.no U) U (.tm U) (.const U) Tryz.underlying102 ty9 (fun _=>⟨by omega,A5 hx0⟩)) U ?_;refine A3 ty9 ?_;refine Br (implParseInt a) ?_;refine Ac (B7 U (.no U) U U fun _=>rfl) U ?_;refine Ac (Ao U (.no U) U U (fun _=>rfl) U) U ?_;refine Ac (Ao U (.no U) U U (fun _=>rfl) U) U ?_;refine Ah ?_;refine Ah ?_;refine Aa (Ae (Ar (Av [0,2,3,4,5,6,7] [3]) ?_));refine Ad (Ab ?_);refine Ac (Aw U (.no U) U (.tm U) (.const U) Tryz.underlying102 ty9 (fun _=>⟨by omega,A5 hx1⟩)) U ?_;refine A3 ty9 ?_;refine Bq (Cb 2700 (implParseBatch b (by omega)) U U U (.cons (.tm U) U .nil) U U) U ?_;refine Ac (B7 U (.no U) U U fun _=>rfl) U ?_;refine Ac (Ao U (.no U) U U (fun _=>rfl) U) U ?_;refine Ac (Ao U (.no U) U U (fun _=>rfl) U) U ?_;refine Au (Az 8 U U U Dk U U U) U ?_;refine An Cf ?_;refine Bf (Av [0,2,3,4,5,6,7,8,29] [3,2700,8]) ?_;refine Ah ?_
 refine Aa (Ae (Af (Ab ?_)));refine Cg ?_;refine Ab ?_;refine Co ?_;refine Ac (Dq U (by exact .not1 U U U U) U (.tmp U (by exact id))) U ?_;refine Ci ?_;refine Ab ?_;refine Co ?_;refine Ac (Bm U (by exact .not1 U U U U) U (.tmp U (by exact fun _=>rfl)) U Cf U U) U ?_;refine Ac (Bo (FnT.fr (implEncodeRecord (parseI a).1 (parseB b).1)) U (by exact .not1 U U U U) U (.cons (.tmp U (by exact id)) U (.cons (.tmp U (by exact id)) U .nil))) U ?_;refine Co ?_;refine Ac (R_nestr U (by exact .not1 U U U U) U (.tmp U (by exact id)) (.tmp U (by exact id))) U ?_;refine Ci ?_;refine Aa (Al (.tm U) (fun h42=>?_) (fun h42=>?_))
 · try simp at h42
   refine Ae (Ar (Av [0,2,3,4,5,6,7,8,9] [3,2700,8]) ?_);refine Ad (Ac (Bw (ps:=[]) U U U Dk U U st68 .nil U) U ?_);refine Cp (i:=43) 20002 5 0 U U U ?_;refine Aj ?_;refine An Cf ?_;refine Bf (Av [0,2,3,4,5,6,7,8,9] [3,2700,8,20002]) ?_;refine Aj ?_;refine Aa (Ap (Bg U (.tmp U (.cell U U Cf U U (.tmp U .nil))) U ?_ (by simp)))
   have hn:=rec_bad hs (by grind);rw [(rec_none hn).1,(rec_none hn).2,hn];rfl
 try simp at h42
 refine Am (Ae (Ar (Av [0,2,3,4,5,6,7,8,9] [3,2700,8]) ?_));refine AW.dagn 5 7 [[],[0],[1],[0,1],[0,2],[0,1,2],[0,1,2,3],[0,1,2,3,4]] [(0,0,1),(0,1,2),(1,1,3),(2,0,3),(1,2,4),(3,2,5),(4,1,5),(5,3,6),(6,4,7)] (by kernel_rfl) (by kernel_rfl) (by kernel_rfl) ?_;apply Aq (i:=0)
 case ha|ho|hb=>rfl
 case hE=>
  intro w9;refine Ab ?_;exact Ak [0,2,3,4,5,6,7,8,9,44] [3,2700,8]
 apply Aq (i:=1);rfl;rfl;rfl
 · intro w9;refine Ai Cf ?_;exact Ak [0,2,3,4,5,6,7,8,9,45] [3,2700,8]
 apply Aq (i:=1);rfl;rfl;rfl
 · intro w9;refine Ai Cf ?_;exact Ak [0,2,3,4,5,6,7,8,9,44,45] [3,2700,8]
 apply Ax (i:=0);rfl;rfl;rfl
 · intro w9;refine Ab ?_;exact Aa Ay
 apply Aq (i:=2);rfl;rfl;rfl
 · intro w9;refine Ah ?_;exact Ak [0,2,3,4,5,6,7,8,9] [3,2700,8]
 apply Aq (i:=2);rfl;rfl;rfl
 · intro w9;refine Ah ?_;exact Ak [0,2,3,4,5,6,7,8,9,45] [3,2700,8]
 apply Ax (i:=1);rfl;rfl;rfl
 · intro w9;refine Ai Cf ?_;exact Aa Ay
 apply Aq (i:=3);rfl;rfl;rfl
 · intro w9;refine An Cf ?_;exact Ak [0,2,3,4,5,6,7,8,9] [3,2700,8]
 apply Aq (i:=4);rfl;rfl;rfl
 · intro w9;refine Aj ?_;exact Ak [0,2,3,4,5,6,7,8,9] [3,2700,8]
 refine Dag.fin (k:=7) U ?_;refine Aa (Ap (Bg U (.tmp U (.cell U U Cf U U (.tmp U .nil))) U ?_ (by simp)))
 obtain⟨e1,e2,e3⟩:=rec_yes hs (by grind) (by grind) (bs_inj (by grind));rw [e1,e2,e3];rfl
theorem specDecodeRecordL (l:List UInt8) (hz:l.length≤1073741824):FnT Tryz.prog 85 [.one (.v (.string (bs l)))] (.tup [.one (.v (.int .i64 (recV l))),.agg (cBatch (recB l)),.one (.v (.bool (recG l)))]):=by
 refine Bb Tryz.func85 U (by kernel_rfl) Tryz.ntmps85 U fun hlen w0=>?_
 try simp [cEdge,cChange,cBatch] at hlen
 refine Af (Aj ?_);refine Au (Az 3 U U U Dk U U U) U ?_;refine Aj ?_;refine Aa (Af (Ab ?_));refine Br (specl2Cut l 59 hz) ?_;refine Ah ?_;refine Aa (Ae (Af (Ab ?_)));refine Bu (.t) Tryz.underlying102 ?_;refine AWl.nc ?_;refine Aa (Al (.tm U) (fun h14=>?_) (fun h14=>?_))
 · try simp at h14
   refine Af (Ac (Bw (ps:=[]) U U U Dk U U st68 .nil U) U ?_);refine Cp (i:=15) 20001 5 0 U U U ?_;refine Aj ?_;refine An Cf ?_;refine Bf (Av [0,2,3,4,5,14] [3,20001]) ?_;refine Aj ?_;refine Aa (Ap (Bg U (.tmp U (.cell U U Cf U U (.tmp U .nil))) U ?_ (by simp)))
   have hn:=rec_not3 (l:=l) (by omega);rw [(rec_none hn).1,(rec_none hn).2,hn];rfl
 try simp at h14
 obtain⟨a,b,c,hs⟩:=three_parts (p:=splitL 59 l) (by omega)
 have hx0:(splitL 59 l)[0]?=some a:=by rw [hs];rfl
 have hx1:(splitL 59 l)[1]?=some b:=by rw [hs];rfl
 have hbl:=(splitL_mem (c:=59) (l:=l) (x:=b) (List.mem_of_getElem? hx1)).2
 have hal:=(splitL_mem (c:=59) (l:=l) (x:=a) (List.mem_of_getElem? hx0)).2
 refine Am (Af (Ab ?_));refine Ac (Aw U (.no U) U (.tm U) (.const U) Tryz.underlying102 ty9 (fun _=>⟨by omega,A5 hx0⟩)) U ?_;refine A3 ty9 ?_;refine Ac (Bo (FnT.fr (specParseInt a (by omega))) U (.no U) U (.cons (.tm U) U .nil)) U ?_;refine Ac (B7 U (.no U) U U fun _=>rfl) U ?_;refine Ac (Ao U (.no U) U U (fun _=>rfl) U) U ?_;refine Ac (Ao U (.no U) U U (fun _=>rfl) U) U ?_;refine Ah ?_;refine Ah ?_;refine Aa (Ae (Ar (Av [0,2,3,4,5,6,7] [3]) ?_));refine Ad (Ab ?_);refine Ac (Aw U (.no U) U (.tm U) (.const U) Tryz.underlying102 ty9 (fun _=>⟨by omega,A5 hx1⟩)) U ?_;refine A3 ty9 ?_;refine Bq (Cb 2700 (specParseBatch b (by omega)) U U U (.cons (.tm U) U .nil) U U) U ?_;refine Ac (B7 U (.no U) U U fun _=>rfl) U ?_;refine Ac (Ao U (.no U) U U (fun _=>rfl) U) U ?_;refine Ac (Ao U (.no U) U U (fun _=>rfl) U) U ?_;refine Au (Az 8 U U U Dk U U U) U ?_;refine An Cf ?_
 refine Bf (Av [0,2,3,4,5,6,7,8,29] [3,2700,8]) ?_;refine Ah ?_;refine Aa (Ae (Af (Ab ?_)));refine Cg ?_;refine Ab ?_;refine Co ?_;refine Ac (Dq U (by exact .not1 U U U U) U (.tmp U (by exact id))) U ?_;refine Ci ?_;refine Ab ?_;refine Co ?_;refine Ac (Bm U (by exact .not1 U U U U) U (.tmp U (by exact fun _=>rfl)) U Cf U U) U ?_;refine Ac (Bo (FnT.fr (specEncodeRecord (parseI a).1 (parseB b).1)) U (by exact .not1 U U U U) U (.cons (.tmp U (by exact id)) U (.cons (.tmp U (by exact id)) U .nil))) U ?_;refine Co ?_;refine Ac (R_nestr U (by exact .not1 U U U U) U (.tmp U (by exact id)) (.tmp U (by exact id))) U ?_;refine Ci ?_;refine Aa (Al (.tm U) (fun h42=>?_) (fun h42=>?_))
 · try simp at h42
   refine Ae (Ar (Av [0,2,3,4,5,6,7,8,9] [3,2700,8]) ?_);refine Ad (Ac (Bw (ps:=[]) U U U Dk U U st68 .nil U) U ?_);refine Cp (i:=43) 20002 5 0 U U U ?_;refine Aj ?_;refine An Cf ?_;refine Bf (Av [0,2,3,4,5,6,7,8,9] [3,2700,8,20002]) ?_;refine Aj ?_;refine Aa (Ap (Bg U (.tmp U (.cell U U Cf U U (.tmp U .nil))) U ?_ (by simp)))
   have hn:=rec_bad hs (by grind);rw [(rec_none hn).1,(rec_none hn).2,hn];rfl
 try simp at h42
 refine Am (Ae (Ar (Av [0,2,3,4,5,6,7,8,9] [3,2700,8]) ?_));refine AW.dagn 5 7 [[],[0],[1],[0,1],[0,2],[0,1,2],[0,1,2,3],[0,1,2,3,4]] [(0,0,1),(0,1,2),(1,1,3),(2,0,3),(1,2,4),(3,2,5),(4,1,5),(5,3,6),(6,4,7)] (by kernel_rfl) (by kernel_rfl) (by kernel_rfl) ?_;apply Aq (i:=0)
 case ha|ho|hb=>rfl
 case hE=>
  intro w9;refine Ab ?_;exact Ak [0,2,3,4,5,6,7,8,9,44] [3,2700,8]
 apply Aq (i:=1);rfl;rfl;rfl
 · intro w9;refine Ai Cf ?_;exact Ak [0,2,3,4,5,6,7,8,9,45] [3,2700,8]
 apply Aq (i:=1);rfl;rfl;rfl
 · intro w9;refine Ai Cf ?_;exact Ak [0,2,3,4,5,6,7,8,9,44,45] [3,2700,8]
 apply Ax (i:=0);rfl;rfl;rfl
 · intro w9;refine Ab ?_;exact Aa Ay
 apply Aq (i:=2);rfl;rfl;rfl
 · intro w9;refine Ah ?_;exact Ak [0,2,3,4,5,6,7,8,9] [3,2700,8]
 apply Aq (i:=2);rfl;rfl;rfl
 · intro w9;refine Ah ?_;exact Ak [0,2,3,4,5,6,7,8,9,45] [3,2700,8]
 apply Ax (i:=1);rfl;rfl;rfl
 · intro w9;refine Ai Cf ?_;exact Aa Ay
 apply Aq (i:=3);rfl;rfl;rfl
 · intro w9;refine An Cf ?_;exact Ak [0,2,3,4,5,6,7,8,9] [3,2700,8]
 apply Aq (i:=4);rfl;rfl;rfl
 · intro w9;refine Aj ?_;exact Ak [0,2,3,4,5,6,7,8,9] [3,2700,8]
 refine Dag.fin (k:=7) U ?_;refine Aa (Ap (Bg U (.tmp U (.cell U U Cf U U (.tmp U .nil))) U ?_ (by simp)))
 obtain⟨e1,e2,e3⟩:=rec_yes hs (by grind) (by grind) (bs_inj (by grind));rw [e1,e2,e3];rfl
end Go.Proofs.YtdhojcaoljhbiaaGreatDoor
