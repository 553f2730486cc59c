import Derived.Test.YtdhojcaoljhbiaaGreatDoorDraw1xr
set_option linter.unusedVariables false
set_option linter.unusedSimpArgs false
set_option maxHeartbeats 1000000
set_option maxRecDepth 100000
namespace Go.Q
open Go.D
theorem insG_no {g:TGraph} {e:TEdge} (h:insOk g e=false):insG g e=(g,false):=by unfold insG;rw [if_neg (by rw [h];decide)]
theorem insG_yes {g:TGraph} {e:TEdge} {k:Nat} (h:insOk g e=true) (hk:insAt g.Edges e=k):insG g e=(⟨g.Values,g.Edges.take k++e::g.Edges.drop k⟩,true):=by
 unfold insG
 rw [if_pos h]
 unfold insL
 rw [hk]
theorem ins_more {l:List TEdge} {e x:TEdge} {k:Nat} (h:∀ j x,j<k→l[j]?=some x→x.ID<e.ID) (hx:l[k]?=some x) (h2:x.ID<e.ID):∀ j x,j<k+1→l[j]?=some x→x.ID<e.ID:=fun j y hj hy=>by
 by_cases e1:j=k
 · subst e1;rw [hx] at hy;cases hy;exact h2
 exact h j y (by omega) hy
theorem ins_stop {l:List TEdge} {e:TEdge} {k:Nat} (h:k<l.length→e.ID≤(l[k]?.getD dE).ID):∀ x,l[k]?=some x→¬ x.ID<e.ID:=fun x hx=>by
 have:=h (List.getElem?_eq_some_iff.1 hx).1
 rw [hx,Option.getD_some] at this
 omega
end Go.Q
namespace Go.Proofs.YtdhojcaoljhbiaaGreatDoor
open Go.RowKit Go.Q Go.D
theorem implInsertEdge (g:TGraph) (e:TEdge) (hz1:g.Values.length≤1073741824) (hz2:g.Edges.length≤1048576):FnT Tryz.prog 126 [.agg (cGraph g),.agg (cEdge e)] (.tup [.agg (cGraph (insG g e).1),.one (.v (.bool (insG g e).2))]):=by
 refine Bb Tryz.func126 U (by kernel_rfl) Tryz.ntmps126 U fun hlen w0=>?_
 try simp [cEdge,cGraph,cChange,cBatch] at hlen
 refine Af (Ac (Bx U U U (.tm U) (ts:=_) (by rfl)) U ?_);refine Ac (Bx U U U (.tm U) (ts:=_) (by rfl)) U ?_;refine Au (Az 4 U U U Cj U U U) U ?_;refine Aj ?_;refine Aa (Af (A3 A9 ?_));refine Bq (Cb 900 (implcopyGraph g hz1 (by omega)) U U U (.cons (.tm U) U .nil) U U) U ?_;refine Au (Az 6 U U U Cj U U U) U ?_;refine An A9 ?_;refine Aa (Ae (Af (A3 A9 ?_)));refine Br (implIsValidGraph g) ?_;refine Cg ?_;refine Ab ?_;refine Ac (Bl U (by exact .not1 U U U U) U (.tmp U (by exact fun _=>rfl)) Ba U U) U ?_;refine AWl.fw Cu ?_;refine AWl.lw Dm ?_;refine Ac (Cn U (by exact .not1 U U U U) U (.tmp U (by exact id)) (by exact .t) Tryz.underlying34) U ?_;refine Ac (Bo (FnT.fr (impledgeOk e (g.Values.length:Nat) (by omega) (by omega))) U (by exact .not1 U U U U) U (.cons (.tmp U (by exact id)) U (.cons (.tmp U (by exact id)) U .nil))) U ?_
 refine Ac (Dq U (by exact .not1 U U U U) U (.tmp U (by exact id))) U ?_;refine Ci ?_;refine Ab ?_;refine Ac (Bl U (by exact .not1 U U U U) U (.tmp U (by exact fun _=>rfl)) A9 U U) U ?_;refine AWl.fw Cx ?_;refine AWl.lw ty3 ?_;refine Ac (Bo (FnT.fr (implEdgeIndex g e.ID)) U (by exact .not1 U U U U) U (.cons (.tmp U (by exact id)) U (.cons (.tmp U (by exact id)) U .nil))) U ?_;refine Ac (R_ge U (by exact .not1 U U U U) U (.tmp U (by exact id)) (.const U)) U ?_;refine Ci ?_;refine Ab ?_;refine AWl.fw Ca ?_;refine AWl.lw C6 ?_;refine Ac (Cn U (by exact .not1 U U U U) U (.tmp U (by exact id)) (by exact .t) Tryz.underlying35) U ?_;refine Ac (R_eq U (by exact .not1 U U U U) U (.tmp U (by exact id)) (.const U)) U ?_;refine Ci ?_;refine Aa (Al (.tm U) (fun h33=>?_) (fun h33=>?_))
 · try simp at h33
   refine Ae (Ar (Av [0,1,2,3,4,5,6] [4,900,901,6]) ?_);refine Ad (Ai A9 ?_);refine An A9 ?_;refine Bf (Av [0,1,2,3,4,5,6] [4,900,901,6]) ?_;refine Aj ?_;refine Aa (Ap (Bg U (.cell U U A9 U U (.tmp U .nil)) U ?_ (by simp)))
   rw [insG_no (by unfold insOk;grind)];rfl
 try simp at h33
 refine Am (Ae (Ar (Av [0,1,2,3,4,5,6] [4,900,901,6]) ?_));refine Ad (Aj ?_);refine Aa (Ae (AW.block ?_));refine AW.loop1 (fun (k:Nat)=>(k≤g.Edges.length∧∀ j x,j<k→g.Edges[j]?=some x→x.ID<e.ID)∧True) (fun (k:Nat)=>⟨_,[(7,(true,.a (.one (.t (.v (.int .i64 (k:Nat))))))),(3,_),(4,_),(5,_),(6,_)],[(4,.box [.t (.v (.slice none 0 0)),.t (.v (.slice none 0 0))]),(6,.box [.rf 900,.rf 901]),(900,.row 1 (g.Values.map cInt)),(901,.row 4 (g.Edges.map cEdge))]⟩) (fun (k:Nat)=>g.Edges.length-k) (0) ⟨⟨Nat.zero_le _,fun j x hj=>by omega⟩,Y⟩ Ay ?_
 rintro k ⟨hk,he⟩
 refine Ae (Ae (Cv 16 (nthB [[],[],[1],[1,2],[0,1,2,3],[0,1,2,3,4],[0,1,2,3,4,5],[0,1,2,3,4,5,6],[0,1,2,3,4,5],[0,1,2,3,4,5,6,7,8],[0,1,2,3,4,5,6,7,8,9],[0,1,2,3,4,5,6,7,8,9,10],[0,1,2,3,4,5],[0,1,2,3,4,5,12],[0,1,2,3,4,5,6,7,8,9,10,11,12,13],[0,1,2,3,4,5,6,7,8,9,10,11,12,13,14]]) (by kernel_rfl) (by kernel_rfl) (by kernel_rfl) ?_));refine Bp ?_;refine DrawC.s (fun _ hs=>(by exact Bk U (.no U) (Ag hs U) (hs.tm U) Ca)) ?_;refine DrawC.s (fun _ hs=>(by exact Bm U (.no U) (Ag hs U) (hs.tm U) (hs.res _ _ U) C6 U U)) ?_;refine DrawC.s (fun _ hs=>(by exact Cn U (.no U) (Ag hs U) (hs.tm U) (by exact .rf (hs.res _ _ U)) Tryz.underlying35)) ?_;refine DrawC.s (fun _ hs=>R_lt U (.no U) (Ag hs U) (hs.tm U) (hs.tm U)) ?_;refine Bp ?_;refine DrawC.s (fun _ hs=>(by exact Bk U (by exact hs.y1) (Ag hs U) (hs.tm U) Ca)) ?_
 refine DrawC.s (fun _ hs=>(by exact Bm U (by exact hs.y1) (Ag hs U) (hs.ti U) (hs.res _ _ U) C6 U U)) ?_;refine DrawC.s (fun _ hs=>Bh U (by exact hs.y1) (Ag hs U) (hs.tm U)) ?_;refine DrawC.s (fun _ hs=>(by exact C2 U (by exact hs.y1) (Ag hs U) (hs.ti U) (hs.res _ _ U) (hs.ti U) Tryz.underlying35 Ba (fun hq=>⟨by omega,A5 (getD_at (d:=dE) (by simp at hq;omega))⟩))) ?_;refine DrawC.s (fun _ hs=>(by exact R_fieldAddr_pr U (by exact hs.y1) (Ag hs U) (hs.ti U) Cx)) ?_;refine DrawC.s (fun _ hs=>(by exact R_load_prq U (by exact hs.y1) (Ag hs U) (hs.ti U) (hs.res _ _ U) (fun hq=>A5 (getD_at (d:=dE) (by simp at hq;omega))) ty3 U U)) ?_;refine DrawC.s (fun _ hs=>(by exact Bc U (by exact hs.y1) (Ag hs U) (hs.tm U) Cx)) ?_;refine DrawC.s (fun _ hs=>(by exact Bl U (by exact hs.y1) (Ag hs U) (hs.ti U) ty3 U U)) ?_;refine DrawC.s (fun _ hs=>R_lt U (by exact hs.y1) (Ag hs U) (hs.ti U) (hs.ti U)) ?_
 refine DrawC.s (fun _ hs=>R_and U (.no U) (Ag hs U) (hs.tm U) (hs.ti U)) ?_;refine Cm U U ?_;refine Aa (Al (.tm U) (fun h50=>?_) (fun h50=>?_))
 · try simp at h50
   have hx:=getD_at (d:=dE) (l:=g.Edges) (k:=k) (by omega)
   refine Am (AW.block (Ar (Av [3,4,5,6,7] [4,6,900,901]) ?_));refine Ad (Ab ?_);refine Bs ?_;refine Ah ?_;refine Aa ?_
   repeat (with_reducible refine A7 ?_)
   refine Round1.next (k+1) ⟨⟨by omega,ins_more hk.2 hx h50.2⟩,Y⟩ (by omega) (A6 rfl ⟨rfl,rfl,rfl,rfl,rfl,Y⟩ ⟨(by rfl),(by rfl),(by rfl),(by rfl),Y⟩)
 try simp at h50
 have hat:=insAt_eq (e:=e) hk.1 hk.2 (ins_stop h50)
 refine Bt (Ae (Ar (Av [3,4,5,6,7] [4,6,900,901]) ?_));refine Ad (A8 Ca ?_);refine Ai C6 ?_;refine Ab ?_;refine A3 Ba ?_;refine Bd (B8 (xs:=[.tmp 56]) 57 U U U (.cons (.tm U) U U .nil) Tryz.underlying35 C0 U U U U) U ?_;apply AWl.consume
 case ho=>
  apply R_consumeL 5800 (InsertEdge1 g.Edges k e (by omega) hz2) rfl rfl rfl
  case hx=>exact (.cons (.tm rfl) (.cons (.tm rfl) (.cons (.tm rfl) .nil)))
  case ha=>rfl
  all_goals rfl
 case hd=>rfl
 refine A8 Ca ?_;refine An C6 ?_;refine Aa (Ae (Ar (Av [3,4,5,6,7] [4,6,900,5800]) ?_));refine Ad (Ai A9 ?_);refine An A9 ?_;refine Bf (Av [3,4,5,6,7] [4,6,900,5800]) ?_;refine Aj ?_;refine Aa (Ap (Bg U (.cell U U A9 U U (.tmp U .nil)) U ?_ (by simp)))
 rw [insG_yes (by unfold insOk;grind) hat];rfl
theorem specInsertEdge (g:TGraph) (e:TEdge) (hz1:g.Values.length≤1073741824) (hz2:g.Edges.length≤1048576):FnT Tryz.prog 165 [.agg (cGraph g),.agg (cEdge e)] (.tup [.agg (cGraph (insG g e).1),.one (.v (.bool (insG g e).2))]):=by
 refine Bb Tryz.func165 U (by kernel_rfl) Tryz.ntmps165 U fun hlen w0=>?_
 try simp [cEdge,cGraph,cChange,cBatch] at hlen
 refine Af (Ac (Bx U U U (.tm U) (ts:=_) (by rfl)) U ?_);refine Ac (Bx U U U (.tm U) (ts:=_) (by rfl)) U ?_;refine Au (Az 4 U U U Cj U U U) U ?_;refine Aj ?_;refine Aa (Ae (Af (A3 A9 ?_)));refine Br (specIsValidGraph g) ?_;refine Cg ?_;refine Ab ?_;refine Ac (Bl U (by exact .not1 U U U U) U (.tmp U (by exact fun _=>rfl)) A9 U U) U ?_;refine Ac (Bl U (by exact .not1 U U U U) U (.tmp U (by exact fun _=>rfl)) Ba U U) U ?_;refine Ac (Bo (FnT.fr (specl3Edge g e)) U (by exact .not1 U U U U) U (.cons (.tmp U (by exact id)) U (.cons (.tmp U (by exact id)) U .nil))) U ?_;refine Ac (Dq U (by exact .not1 U U U U) U (.tmp U (by exact id))) U ?_;refine Ci ?_;refine Ab ?_;refine Ac (Bl U (by exact .not1 U U U U) U (.tmp U (by exact fun _=>rfl)) A9 U U) U ?_;refine AWl.fw Cx ?_;refine AWl.lw ty3 ?_
 refine Ac (Bo (FnT.fr (specEdgeIndex g e.ID)) U (by exact .not1 U U U U) U (.cons (.tmp U (by exact id)) U (.cons (.tmp U (by exact id)) U .nil))) U ?_;refine Ac (R_ge U (by exact .not1 U U U U) U (.tmp U (by exact id)) (.const U)) U ?_;refine Ci ?_;refine Ab ?_;refine AWl.fw Ca ?_;refine AWl.lw C6 ?_;refine Ac (Cn U (by exact .not1 U U U U) U (.tmp U (by exact id)) (by exact .t) Tryz.underlying35) U ?_;refine Ac (R_eq U (by exact .not1 U U U U) U (.tmp U (by exact id)) (.const U)) U ?_;refine Ci ?_;refine Aa (Al (.tm U) (fun h29=>?_) (fun h29=>?_))
 · try simp at h29
   refine Ae (Ar (Av [0,1,2,3,4,5] [4]) ?_);refine Ad (A3 A9 ?_);refine Bq (Cb 3100 (specl3Copy g hz1 (by omega)) U U U (.cons (.tm U) U .nil) U U) U ?_;refine An A9 ?_;refine Bf (Av [0,1,2,3,4,5] [4,3100,3101]) ?_;refine Aj ?_;refine Aa (Ap (Bg U (.cell U U A9 U U (.tmp U .nil)) U ?_ (by simp)))
   rw [insG_no (by unfold insOk;grind)];rfl
 try simp at h29
 refine Am (Ae (Ar (Av [0,1,2,3,4,5] [4]) ?_));refine Ad (Aj ?_);refine Aa (Ae (AW.block ?_));refine AW.loop1 (fun (k:Nat)=>(k≤g.Edges.length∧∀ j x,j<k→g.Edges[j]?=some x→x.ID<e.ID)∧True) (fun (k:Nat)=>⟨_,[(6,(true,.a (.one (.t (.v (.int .i64 (k:Nat))))))),(2,_),(3,_),(4,_),(5,_)],[(4,.box [.t (.v (.slice none 0 0)),.t (.v (.slice none 0 0))])]⟩) (fun (k:Nat)=>g.Edges.length-k) (0) ⟨⟨Nat.zero_le _,fun j x hj=>by omega⟩,Y⟩ Ay ?_
 rintro k ⟨hk,he⟩
 refine Ae (Ae (Cv 16 (nthB [[],[],[1],[1,2],[0,1,2,3],[0,1,2,3,4],[0,1,2,3,4,5],[0,1,2,3,4,5,6],[0,1,2,3,4,5],[0,1,2,3,4,5,6,7,8],[0,1,2,3,4,5,6,7,8,9],[0,1,2,3,4,5,6,7,8,9,10],[0,1,2,3,4,5],[0,1,2,3,4,5,12],[0,1,2,3,4,5,6,7,8,9,10,11,12,13],[0,1,2,3,4,5,6,7,8,9,10,11,12,13,14]]) (by kernel_rfl) (by kernel_rfl) (by kernel_rfl) ?_));refine Bp ?_;refine Di Ca ?_;refine Cd C6 ?_;refine DrawC.s (fun _ hs=>(by exact Cn U (.no U) (Ag hs U) (hs.tm U) (by exact .t) Tryz.underlying35)) ?_;refine DrawC.s (fun _ hs=>R_lt U (.no U) (Ag hs U) (hs.tm U) (hs.tm U)) ?_;refine Bp ?_;refine DrawC.s (fun _ hs=>(by exact Bc U (by exact hs.y1) (Ag hs U) (hs.tm U) Ca)) ?_;refine DrawC.s (fun _ hs=>(by exact Bl U (by exact hs.y1) (Ag hs U) (hs.ti U) C6 U U)) ?_;refine DrawC.s (fun _ hs=>Bh U (by exact hs.y1) (Ag hs U) (hs.tm U)) ?_
 refine DrawC.s (fun _ hs=>(by exact Aw U (by exact hs.y1) (Ag hs U) (hs.ti U) (hs.ti U) Tryz.underlying35 Ba (fun hq=>⟨by omega,A5 (getD_at (d:=dE) (by simp at hq;omega))⟩))) ?_;refine DrawC.s (fun _ hs=>(by exact Bc U (by exact hs.y1) (Ag hs U) (hs.ti U) Cx)) ?_;refine DrawC.s (fun _ hs=>(by exact Bl U (by exact hs.y1) (Ag hs U) (hs.ti U) ty3 U U)) ?_;refine DrawC.s (fun _ hs=>(by exact Bc U (by exact hs.y1) (Ag hs U) (hs.tm U) Cx)) ?_;refine DrawC.s (fun _ hs=>(by exact Bl U (by exact hs.y1) (Ag hs U) (hs.ti U) ty3 U U)) ?_;refine DrawC.s (fun _ hs=>R_lt U (by exact hs.y1) (Ag hs U) (hs.ti U) (hs.ti U)) ?_;refine DrawC.s (fun _ hs=>R_and U (.no U) (Ag hs U) (hs.tm U) (hs.ti U)) ?_;refine Cm U U ?_;refine Aa (Al (.tm U) (fun h47=>?_) (fun h47=>?_))
 · try simp at h47
   have hx:=getD_at (d:=dE) (l:=g.Edges) (k:=k) (by omega)
   refine Am (AW.block (Ar (Av [2,3,4,5,6] [4]) ?_));refine Ad (Ab ?_);refine Bs ?_;refine Ah ?_;refine Aa ?_
   repeat (with_reducible refine A7 ?_)
   refine Round1.next (k+1) ⟨⟨by omega,ins_more hk.2 hx h47.2⟩,Y⟩ (by omega) (A6 rfl ⟨rfl,rfl,rfl,rfl,rfl,Y⟩ ⟨(by rfl),Y⟩)
 try simp at h47
 have hat:=insAt_eq (e:=e) hk.1 hk.2 (ins_stop h47)
 refine Bt (Ae (Ar (Av [2,3,4,5,6] [4]) ?_));refine Ad (Au (Df 50 U U U Tryz.underlying34 ty3 U) U ?_);refine Bz Cu ?_;refine A3 Dm ?_;refine Ce (Cc U U U (.tm U) U (.tm U) (by exact .t) (by exact isV_map (fun _=>rfl) _) Tryz.underlying34 in3 U (by (simp [chunk];omega)) (by (unfold maxLen;simp [chunk];omega))) U ?_;refine Bf (Av [2,3,4,5,6,53] [4,50]) ?_;refine Ac (Bw (ps:=[(0,.tmp 53)]) U U U Cj U U st37 (.cons (.tm U) U U fp37_0 .nil) U) U ?_;refine Cp (i:=54) 20001 4 1 U U U ?_;refine Au (Az 7 U U U Cj U U U) U ?_;refine An A9 ?_;refine Aa (Ae (Ar (Av [2,3,4,5,6,7,53,54] [4,50,20001,7]) ?_));refine AW.drawK 15 (nthB [[],[],[1],[],[1,2,3],[0,1,2,3,4],[],[6],[0,1,2,3,4,5,6,7],[],[9],[],[9,10,11],[0,1,2,3,4,5,6,7,8,9,10,11,12],[0,1,2,3,4,5,6,7,8,9,10,11,12,13]]) [(5,55),(8,55),(13,55)] (by kernel_rfl) (by kernel_rfl) (by kernel_rfl) ?_
 refine DrawK.step (LocK.of1 U fun σ' hs hf=>Df 55 U U (Ag hs U) Tryz.underlying35 Ba hf) ?_;refine DrawK.step (LocK.of U fun σ' hs=>(by exact Bc U (.no U) (Ag hs U) (hs.tm U) Ca)) ?_;refine DrawK.step (LocK.of U fun σ' hs=>(by exact Bl U (.no U) (Ag hs U) (hs.tm U) C6 U U)) ?_;refine DrawK.step (LocK.of U fun σ' hs=>Bh U (.no U) (Ag hs U) (hs.tm U)) ?_;refine DrawK.step (LocK.of U fun σ' hs=>R_slice (m:=k) U (.no U) (Ag hs U) (hs.tm U) .no (.yes (hs.tm U) (fun _=>by first|omega|(simp<;>omega))) Tryz.underlying35 Ba (fun _=>⟨by omega,by first|omega|(simp;omega)⟩)) ?_;refine DrawK.step (LocK.ofc U U fun σ' hs=>Cc (id:=55) U U (Ag hs U) (hs.tm U) (hs.res _ _ U) (hs.tm U) (by exact .t) (by exact isV_part (fun _=>rfl) _ _ _) Tryz.underlying35 C0 U (by (simp [chunk];omega)) (by (unfold maxLen;simp [chunk];omega))) ?_
 refine DrawK.step (LocK.of U fun σ' hs=>(by exact Bl U (.no U) (Ag hs U) (hs.tm U) Ba U U)) ?_;refine DrawK.step (LocK.of1 U fun σ' hs hf=>B8 (xs:=[.tmp 61]) 62 U U (Ag hs U) (.cons (hs.tm U) U U .nil) Tryz.underlying35 C0 U U U hf) ?_;refine DrawK.step (LocK.ofc U U fun σ' hs=>Cc (id:=55) U U (Ag hs U) (hs.tm U) (hs.res _ _ U) (hs.tm U) (by exact .rf (hs.res _ _ U)) (by rfl) Tryz.underlying35 C0 U (by (simp [chunk];omega)) (by (unfold maxLen;simp [chunk];omega))) ?_;refine DrawK.step (LocK.of U fun σ' hs=>(by exact Bc U (.no U) (Ag hs U) (hs.tm U) Ca)) ?_;refine DrawK.step (LocK.of U fun σ' hs=>(by exact Bl U (.no U) (Ag hs U) (hs.tm U) C6 U U)) ?_;refine DrawK.step (LocK.of U fun σ' hs=>Bh U (.no U) (Ag hs U) (hs.tm U)) ?_
 refine DrawK.step (LocK.of U fun σ' hs=>R_slice (n:=k) U (.no U) (Ag hs U) (hs.tm U) (.yes (hs.tm U) (fun _=>by first|omega|(simp<;>omega))) .no Tryz.underlying35 Ba (fun _=>⟨by simp;omega,by simp⟩)) ?_;refine DrawK.step (LocK.ofc U U fun σ' hs=>Cc (id:=55) U U (Ag hs U) (hs.tm U) (hs.res _ _ U) (hs.tm U) (by exact .t) (by exact isV_part (fun _=>rfl) _ _ _) Tryz.underlying35 C0 U (by (simp [chunk];omega)) (by (unfold maxLen;simp [chunk];omega))) ?_;refine DrawK.step (LocK.of U fun σ' hs=>(Bk U (.no U) (Ag hs U) (hs.tm U) Ca)) ?_;refine DrawK.fin U U U ?_;refine Bf (Av [2,3,4,5,6,7,68,69] [4,50,20001,7,55,62]) ?_;refine An C6 ?_;refine Aa (Af (Ai A9 ?_));refine An A9 ?_;refine Bf (Av [2,3,4,5,6,7] [4,50,20001,7,55,62]) ?_;refine Aj ?_;refine Aa (Ap (Bg U (.cell U U A9 U U (.tmp U .nil)) U ?_ (by simp)))
 rw [insG_yes (by unfold insOk;grind) hat];refine congrArg (fun r=>[V0.agg [T.sl 1 (g.Values.map cInt),T.sl 4 r],V0.one (T.v (Value.bool true))]) ?_;simp [List.map_take,List.map_drop];rw [List.take_of_length_le (by simp)];rfl
end Go.Proofs.YtdhojcaoljhbiaaGreatDoor
set_option maxHeartbeats 1000000
set_option maxRecDepth 100000
namespace Go.Q
open Go.D
theorem chg_ins {g:TGraph} {c:TChange} (h:c.Insert=true):chgG g c=insG g c.Edge:=by unfold chgG;rw [if_pos h]
theorem chg_del {g:TGraph} {c:TChange} (h:c.Insert=false) (hm:c.Edge∈g.Edges):chgG g c=delG g c.Edge.ID:=by unfold chgG;rw [if_neg (by rw [h];decide),if_pos hm]
theorem chg_non {g:TGraph} {c:TChange} (h:c.Insert=false) (hm:c.Edge∉g.Edges):chgG g c=(g,false):=by unfold chgG;rw [if_neg (by rw [h];decide),if_neg hm]
theorem edges_12 {g:TGraph} (h:validG g=true):g.Edges.length≤12∧g.Values.length≤5:=by
 unfold validG inB at h
 simp only [Bool.and_eq_true,decide_eq_true_eq] at h
 omega
theorem applyB_bad {g G:TGraph} {b:TBatch} {k:Nat} {x:TChange} (he:runL g b.Changes=runL G (b.Changes.drop k)) (hx:b.Changes[k]?=some x) (h:(chgG G x).2=false):applyB g b=(g,false):=
 applyB_no (.inr (.inr (by rw [he];exact runL_bad hx h)))
theorem applyB_end {g G:TGraph} {b:TBatch} {k:Nat} (hg:validG g=true) (h6:b.Changes.length≤6) (he:runL g b.Changes=runL G (b.Changes.drop k)) (hk:b.Changes.length≤k):applyB g b=(G,true):=by
 rw [List.drop_of_length_le hk] at he
 unfold applyB
 rw [he]
 unfold runL
 rw [if_pos ⟨hg,h6,rfl⟩]
theorem idx_row {g:TGraph} {id:Int} (h:0≤edgeIndex g id):g.Edges[(edgeIndex g id).toNat]?=some (g.Edges[(edgeIndex g id).toNat]?.getD dE):=by
 obtain⟨k,x,h1,h2⟩:=edgeIndex_get h
 rw [h2,Int.toNat_natCast,h1];rfl
theorem idx_in {g:TGraph} (hg:validG g=true) {e:TEdge} (h:0≤edgeIndex g e.ID) (h2:g.Edges[(edgeIndex g e.ID).toNat]?.getD dE=e):e∈g.Edges:=by
 have:=idx_row h
 rw [h2] at this
 exact List.mem_of_getElem? this
theorem idx_out {g:TGraph} (hg:validG g=true) {e:TEdge} (h:edgeIndex g e.ID<0∨g.Edges[(edgeIndex g e.ID).toNat]?.getD dE≠e):e∉g.Edges:=fun hm=>by
 obtain⟨k,h1,h2⟩:=(mem_index hg).1 hm
 rcases h with h|h
 · omega
 rw [h1,Int.toNat_natCast,h2] at h;exact h rfl
theorem edge_same {x y:TEdge} (h:((x.ID=y.ID∧x.From=y.From)∧x.To=y.To)∧x.Label=y.Label):x=y:=by
 cases x;cases y;simp_all
theorem edge_diff {x y:TEdge} (h:((¬ x.ID=y.ID∨¬ x.From=y.From)∨¬ x.To=y.To)∨¬ x.Label=y.Label):x≠y:=by
 rintro rfl;simp at h
end Go.Q
namespace Go.Proofs.YtdhojcaoljhbiaaGreatDoor
open Go.RowKit Go.Q Go.D
theorem implApplyBatch (g:TGraph) (b:TBatch) (hz1:g.Values.length≤1073741824) (hz2:g.Edges.length≤1048576):FnT Tryz.prog 84 [.agg (cGraph g),.agg (cBatch b)] (.tup [.agg (cGraph (applyB g b).1),.one (.v (.bool (applyB g b).2))]):=by
 refine Bb Tryz.func84 U (by kernel_rfl) Tryz.ntmps84 U fun hlen w0=>?_
 try simp [cEdge,cGraph,cChange,cBatch] at hlen
 refine Af (Ac (Bx U U U (.tm U) (ts:=_) (by rfl)) U ?_);refine Ac (Bx U U U (.tm U) (ts:=_) (by rfl)) U ?_;refine Au (Az 4 U U U Cj U U U) U ?_;refine Aj ?_;refine Aa (Af (A3 A9 ?_));refine Bq (Cb 1100 (implcopyGraph g hz1 (by omega)) U U U (.cons (.tm U) U .nil) U U) U ?_;refine Au (Az 6 U U U Cj U U U) U ?_;refine An A9 ?_;refine Aa (Ae (Af (A3 A9 ?_)));refine Br (implIsValidGraph g) ?_;refine Cg ?_;refine Ab ?_;refine AWl.fw Bv ?_;refine AWl.lw Ct ?_;refine Ac (Cn U (by exact .not1 U U U U) U (.tmp U (by exact id)) (by exact .t) Tryz.underlying66) U ?_;refine Ac (R_gt U (by exact .not1 U U U U) U (.tmp U (by exact id)) (.const U)) U ?_;refine Ci ?_;refine Aa (Al (.tm U) (fun h20=>?_) (fun h20=>?_))
 · try simp at h20
   refine Ae (Ar (Av [0,1,2,3,4,5,6] [4,1100,1101,6]) ?_);refine Ad (Ai A9 ?_);refine An A9 ?_;refine Bf (Av [0,1,2,3,4,5,6] [4,1100,1101,6]) ?_;refine Aj ?_;refine Aa (Ap (Bg U (.cell U U A9 U U (.tmp U .nil)) U ?_ (by simp)))
   rw [applyB_no (by grind)];rfl
 try simp at h20
 refine Am (Ae (Ae (Ar (Av [0,1,2,3,4,5,6] [4,1100,1101,6]) ?_)));refine Ad (Bz Bv ?_);refine A3 Ct ?_;refine Bu (.t) Tryz.underlying66 ?_;refine Ac (Bh U (.no U) U (.const U)) U ?_;refine Aa (AW.block ?_);refine Dn (fun (k:Nat) (G:TGraph)=>(k≤b.Changes.length∧validG G=true)∧runL g b.Changes=runL G (b.Changes.drop k)) (fun (k:Nat) (G:TGraph)=>⟨_,[(25,(true,.a (.one (.t (.v (.int .i64 (k:Nat))))))),(2,_),(4,_),(6,_),(23,_),(24,_)],[(4,.box [.t (.v (.slice none 0 0)),.t (.v (.slice none 0 0))]),(6,.box [.rf 1100,.rf 1101]),(1100,.row 1 (G.Values.map cInt)),(1101,.row 4 (G.Edges.map cEdge))]⟩) (fun (k:Nat) (G:TGraph)=>b.Changes.length-k) (0) (g) ⟨⟨Nat.zero_le _,by grind⟩,U⟩ Ay ?_
 rintro k G ⟨hk,he⟩
 refine Af (AWl.lt ?_);refine Aa (Ae (Al (.tm U) (fun h26=>?_) (fun h26=>?_)))
 · try simp at h26
   obtain⟨c,hc⟩:∃ ξ,b.Changes[k]?=some ξ:=⟨_,List.getElem?_eq_getElem (by omega)⟩
   have h12:=edges_12 hk.2
   refine Am (Ae (AW.block (Af (Ac (Aw U (.no U) U (.tm U) (.tm U) Tryz.underlying66 Dc (fun _=>⟨by omega,(A5 hc)⟩)) U ?_))));refine A3 Dc ?_;refine Au (Az 8 U U U Cz U U U) U ?_;refine An Dc ?_;refine Aa (Af (Aj ?_));refine Aa (Ae (Af (A8 fl162_0 ?_)));refine Ai ty4 ?_;refine Aa (Al (.tm U) (fun h30=>?_) (fun h30=>?_))
   · try simp at h30
     refine Ad (Ai A9 ?_);refine A8 fl162_1 ?_;refine Ai Ba ?_;refine Bq (Cb 3500 (implInsertEdge G c.Edge (by omega) (by omega)) U U U (.cons (.tm U) U (.cons (.tm U) U .nil)) U U) U ?_;refine Ac (B7 U (.no U) U U fun _=>rfl) U ?_;refine Ac (Ao U (.no U) U U (fun _=>rfl) U) U ?_;refine Ac (Ao U (.no U) U U (fun _=>rfl) U) U ?_;refine An A9 ?_;refine Bf (Av [2,4,6,8,9,23,24,25,26,30,37] [4,6,1100,1101,8,3500,3501]) ?_;refine Ah ?_;refine Aa (Af (Ab ?_));refine Cg ?_;refine Aa (Al (.tm U) (fun h52=>?_) (fun h52=>?_))
     · skip
       skip
       refine Af (A3 A9 ?_);refine Bq (Cb 5400 (implcopyGraph g hz1 (by omega)) U U U (.cons (.tm U) U .nil) U U) U ?_;refine An A9 ?_;refine Bf (Av [2,4,6,8,9,23,24,25,26,30,52] [4,6,1100,1101,8,3500,3501,5400,5401]) ?_;refine Aj ?_;refine Aa (Ap (Bg U (.cell U U A9 U U (.tmp U .nil)) U ?_ (by simp)))
       rw [applyB_bad he hc (by rw [chg_ins h30];simpa using h52)];rfl
     skip
     skip
     refine Am (Ar (Le.sw 1100 3500 _) ?_);refine Ar (Le.sw 1101 3501 _) ?_;refine Ad (Bs ?_);refine Ab ?_;refine Aa ?_
     repeat (with_reducible refine A7 ?_)
     refine Round2.next (k+1) ((insG G c.Edge).1) ⟨⟨by omega,(insG_valid (by simpa using h52)).1⟩,(by rw [he,runL_at hc (by rw [chg_ins h30];simpa using h52),chg_ins h30])⟩ (by omega) (A6 rfl ⟨rfl,rfl,rfl,rfl,rfl,rfl,Y⟩ ⟨(by rfl),(by rfl),(by rfl),(by rfl),Y⟩)
   try simp at h30
   refine Af (A8 Ca ?_);refine Ai C6 ?_;refine A8 fl162_1 ?_;refine Ai Ba ?_;refine Br (slicesContainsEdge G.Edges c.Edge) ?_;refine Aa (Al (.tm U) (fun h42=>?_) (fun h42=>?_))
   · try simp at h42
     refine Ar (Av [2,4,6,8,9,23,24,25] [4,6,1100,1101,8]) ?_;refine Ad (Ai A9 ?_);refine A8 fl162_1 ?_;refine A8 Cx ?_;refine Ai ty3 ?_;refine Bq (Cb 4800 (implDeleteEdge G c.Edge.ID (by omega) (by omega)) U U U (.cons (.tm U) U (.cons (.tm U) U .nil)) U U) U ?_;refine Ac (B7 U (.no U) U U fun _=>rfl) U ?_;refine Ac (Ao U (.no U) U U (fun _=>rfl) U) U ?_;refine Ac (Ao U (.no U) U U (fun _=>rfl) U) U ?_;refine An A9 ?_;refine Bf (Av [2,4,6,8,9,23,24,25,50] [4,6,1100,1101,8,4800,4801]) ?_;refine Ah ?_;refine Aa (Af (Ab ?_));refine Cg ?_;refine Aa (Al (.tm U) (fun h52=>?_) (fun h52=>?_))
     · skip
       skip
       refine Af (A3 A9 ?_);refine Bq (Cb 5400 (implcopyGraph g hz1 (by omega)) U U U (.cons (.tm U) U .nil) U U) U ?_;refine An A9 ?_;refine Bf (Av [2,4,6,8,9,23,24,25,52] [4,6,1100,1101,8,4800,4801,5400,5401]) ?_;refine Aj ?_;refine Aa (Ap (Bg U (.cell U U A9 U U (.tmp U .nil)) U ?_ (by simp)))
       rw [applyB_bad he hc (by rw [chg_del h30 h42];simpa using h52)];rfl
     skip
     skip
     refine Am (Ar (Le.sw 1100 4800 _) ?_);refine Ar (Le.sw 1101 4801 _) ?_;refine Ad (Bs ?_);refine Ab ?_;refine Aa ?_
     repeat (with_reducible refine A7 ?_)
     refine Round2.next (k+1) ((delG G c.Edge.ID).1) ⟨⟨by omega,(delG_valid (by simpa using h52)).1⟩,(by rw [he,runL_at hc (by rw [chg_del h30 h42];simpa using h52),chg_del h30 h42])⟩ (by omega) (A6 rfl ⟨rfl,rfl,rfl,rfl,rfl,rfl,Y⟩ ⟨(by rfl),(by rfl),(by rfl),(by rfl),Y⟩)
   try simp at h42
   refine Am (Ae (Ar (Av [2,4,6,8,9,23,24,25] [4,6,1100,1101,8]) ?_));refine Ad (Ab ?_);refine Cg ?_;refine Aa (Al (.tm U) (fun h52=>?_) (fun h52=>?_))
   · skip
     skip
     refine Af (A3 A9 ?_);refine Bq (Cb 5400 (implcopyGraph g hz1 (by omega)) U U U (.cons (.tm U) U .nil) U U) U ?_;refine An A9 ?_;refine Bf (Av [2,4,6,8,9,23,24,25,52] [4,6,1100,1101,8,5400,5401]) ?_;refine Aj ?_;refine Aa (Ap (Bg U (.cell U U A9 U U (.tmp U .nil)) U ?_ (by simp)))
     rw [applyB_bad he hc (by rw [chg_non h30 h42])];rfl
   skip
   skip
   refine Am (Ad (Bs ?_));refine Ab ?_;refine Aa ?_
   repeat (with_reducible refine A7 ?_)
   refine Round2.next (k+1) (G) ⟨absurd h52 (by simp),absurd h52 (by simp)⟩ (by omega) (A6 rfl ⟨rfl,rfl,rfl,rfl,rfl,rfl,Y⟩ ⟨(by rfl),(by rfl),(by rfl),(by rfl),Y⟩)
 try simp at h26
 refine Bt (Af (Ai A9 ?_));refine An A9 ?_;refine Bf (Av [2,4,6,23,24,25,26] [4,6,1100,1101]) ?_;refine Aj ?_;refine Aa (Ap (Bg U (.cell U U A9 U U (.tmp U .nil)) U ?_ (by simp)))
 rw [applyB_end (by grind) (by grind) he (by omega)];rfl
theorem specl6Apply (g:TGraph) (b:TBatch) (hg:validG g=true) (h6:b.Changes.length≤6) (hz1:g.Values.length≤1073741824) (hz2:g.Edges.length≤1048576):FnT Tryz.prog 119 [.agg (cGraph g),.agg (cBatch b)] (.tup [.agg (cGraph (applyB g b).1),.one (.v (.bool (applyB g b).2))]):=by
 refine Bb Tryz.func119 U (by kernel_rfl) Tryz.ntmps119 U fun hlen w0=>?_
 try simp [cEdge,cGraph,cChange,cBatch] at hlen
 refine Af (Ac (Bx U U U (.tm U) (ts:=_) (by rfl)) U ?_);refine Ac (Bx U U U (.tm U) (ts:=_) (by rfl)) U ?_;refine Au (Az 4 U U U Cj U U U) U ?_;refine Aj ?_;refine Aa (Af (A3 A9 ?_));refine Bq (Cb 1500 (specl3Copy g hz1 (by omega)) U U U (.cons (.tm U) U .nil) U U) U ?_;refine Au (Az 6 U U U Cj U U U) U ?_;refine An A9 ?_;refine Aa (Ae (Af (Aj ?_)));refine Aa (AW.block (Dn (fun (k:Nat) (G:TGraph)=>(k≤b.Changes.length∧validG G=true)∧runL g b.Changes=runL G (b.Changes.drop k)) (fun (k:Nat) (G:TGraph)=>⟨_,[(7,(true,.a (.one (.t (.v (.int .i64 (k:Nat))))))),(2,_),(3,_),(4,_),(6,_)],[(4,.box [.t (.v (.slice none 0 0)),.t (.v (.slice none 0 0))]),(6,.box [.rf 1500,.rf 1501]),(1500,.row 1 (G.Values.map cInt)),(1501,.row 4 (G.Edges.map cEdge))]⟩) (fun (k:Nat) (G:TGraph)=>b.Changes.length-k) (0) (g) ⟨⟨Nat.zero_le _,hg⟩,U⟩ Ay ?_))
 rintro k G ⟨hk,he⟩
 refine Ae (Af (Ab ?_));refine Bz Bv ?_;refine A3 Ct ?_;refine Bu (.t) Tryz.underlying66 ?_;refine AWl.lt ?_;refine Ab ?_;refine Da ?_;refine Ac (R_le U (by exact .yes1 U U U U) U (.tmp U (by exact id)) (.const U)) U ?_;refine C1 ?_;refine Aa (Al (.tm U) (fun h24=>?_) (fun h24=>?_))
 · try simp at h24
   obtain⟨c,hc⟩:∃ ξ,b.Changes[k]?=some ξ:=⟨_,List.getElem?_eq_getElem (by omega)⟩
   have h12:=edges_12 hk.2
   refine Am (Ae (AW.block (Ae (Ar (Av [2,3,4,6,7] [4,6,1500,1501]) ?_))));refine Ad (Bz Bv ?_);refine A3 Ct ?_;refine Ab ?_;refine Ac (Aw U (.no U) U (.tm U) (.tm U) Tryz.underlying66 Dc (fun _=>⟨by omega,(A5 hc)⟩)) U ?_;refine Bz fl162_1 ?_;refine A3 Ba ?_;refine Au (Az 8 U U U C0 U U U) U ?_;refine An Ba ?_;refine Aa (Ae (Ae (Ar (Av [2,3,4,6,7,8] [4,6,1500,1501,8]) ?_)));refine Ad (Bz Bv ?_);refine A3 Ct ?_;refine Ab ?_;refine Ac (Aw U (.no U) U (.tm U) (.tm U) Tryz.underlying66 Dc (fun _=>⟨by omega,(A5 hc)⟩)) U ?_;refine Bz fl162_0 ?_;refine A3 ty4 ?_;refine Aa (Al (.tm U) (fun h38=>?_) (fun h38=>?_))
   · try simp at h38
     refine Ae (Ar (Av [2,3,4,6,7,8] [4,6,1500,1501,8]) ?_);refine Ad (Ai A9 ?_);refine Ai Ba ?_;refine Bq (Cb 4200 (specInsertEdge G c.Edge (by omega) (by omega)) U U U (.cons (.tm U) U (.cons (.tm U) U .nil)) U U) U ?_;refine Ac (B7 U (.no U) U U fun _=>rfl) U ?_;refine Ac (Ao U (.no U) U U (fun _=>rfl) U) U ?_;refine Ac (Ao U (.no U) U U (fun _=>rfl) U) U ?_;refine Au (Az 9 U U U Cj U U U) U ?_;refine An A9 ?_;refine Bf (Av [2,3,4,6,7,8,9,44] [4,6,1500,1501,8,4200,4201,9]) ?_;refine Ah ?_;refine Aa (Ae (Af (Ab ?_)));refine Cg ?_;refine Aa (Al (.tm U) (fun h46=>?_) (fun h46=>?_))
     · try simp at h46
       refine Af (A3 A9 ?_);refine Bq (Cb 4800 (specl3Copy g hz1 (by omega)) U U U (.cons (.tm U) U .nil) U U) U ?_;refine An A9 ?_;refine Bf (Av [2,3,4,6,7,8,9,10,46] [4,6,1500,1501,8,4200,4201,9,4800,4801]) ?_;refine Aj ?_;refine Aa (Ap (Bg U (.cell U U A9 U U (.tmp U .nil)) U ?_ (by simp)))
       rw [applyB_bad he hc (by rw [chg_ins h38];simpa using h46)];rfl
     try simp at h46
     refine Am (Af (Ai A9 ?_));refine An A9 ?_;refine Aa (Bt (Ar (Le.sw 1500 4200 _) ?_));refine Ar (Le.sw 1501 4201 _) ?_;refine Ad (Ab ?_);refine Bs ?_;refine Ah ?_;refine Aa ?_
     repeat (with_reducible refine A7 ?_)
     refine Round2.next (k+1) ((insG G c.Edge).1) ⟨⟨by omega,(insG_valid (by simpa using h46)).1⟩,(by rw [he,runL_at hc (by rw [chg_ins h38];simpa using h46),chg_ins h38])⟩ (by omega) (A6 rfl ⟨rfl,rfl,rfl,rfl,rfl,Y⟩ ⟨(by rfl),(by rfl),(by rfl),(by rfl),Y⟩)
   try simp at h38
   refine Am (Ae (Ar (Av [2,3,4,6,7,8] [4,6,1500,1501,8]) ?_));refine Ad (Ai A9 ?_);refine A8 Cx ?_;refine Ai ty3 ?_;refine Br (specEdgeIndex G c.Edge.ID) ?_;refine Ah ?_;refine Aa (Ae (Ae (Cv 11 (nthB [[],[0],[0,1],[0,1,2],[0,1,2,3],[0,1,2],[0,1,2,3,4,5],[0,1,2,3,4,5,6],[0,1,2],[0,1,2,3,4,5,6,7,8],[0,1,2,3,4,5,6,7,8,9]]) (by kernel_rfl) (by kernel_rfl) (by kernel_rfl) ?_)));refine Bp ?_;refine DrawC.s (fun _ hs=>R_lt U (.no U) (Ag hs U) (hs.tm U) (.const U)) ?_;refine Bp ?_;refine DrawC.s (fun _ hs=>(by exact Bk U (by exact hs.n1) (Ag hs U) (hs.tm U) Ca)) ?_;refine DrawC.s (fun _ hs=>(by exact Bm U (by exact hs.n1) (Ag hs U) (hs.ti U) (hs.res _ _ U) C6 U U)) ?_;refine DrawC.s (fun _ hs=>Bh U (by exact hs.n1) (Ag hs U) (hs.tm U)) ?_
   refine DrawC.s (fun _ hs=>(by exact C2 U (by exact hs.n1) (Ag hs U) (hs.ti U) (hs.res _ _ U) (hs.ti U) Tryz.underlying35 Ba (fun hq=>⟨by simp at hq;omega,A5 (idx_row (by simp at hq;omega))⟩))) ?_;refine DrawC.s (fun _ hs=>(by exact R_load_prq U (by exact hs.n1) (Ag hs U) (hs.ti U) (hs.res _ _ U) (fun hq=>A5 (idx_row (by simp at hq;omega))) Ba U U)) ?_;refine DrawC.s (fun _ hs=>(by exact Bm U (by exact hs.n1) (Ag hs U) (hs.tm U) (hs.res _ _ U) Ba U U)) ?_;refine DrawC.s (fun _ hs=>R_eqs U (by exact hs.n1) (Ag hs U) (hs.ti U) (hs.ti U) U U (by kernel_rfl) (neS101 _ _ _ _ _ _ _ _)) ?_;refine DrawC.s (fun _ hs=>R_or U (.no U) (Ag hs U) (hs.tm U) (hs.ti U)) ?_;refine Cm U U ?_;refine Aa (Al (.tm U) (fun h64=>?_) (fun h64=>?_))
   · try simp at h64
     have hout:c.Edge∉G.Edges:=idx_out hk.2 (h64.imp id edge_diff)
     refine Ae (Ar (Av [2,3,4,6,7,8,11] [4,6,1500,1501,8]) ?_);refine Ad (A3 A9 ?_);refine Bq (Cb 6600 (specl3Copy g hz1 (by omega)) U U U (.cons (.tm U) U .nil) U U) U ?_;refine An A9 ?_;refine Bf (Av [2,3,4,6,7,8,11] [4,6,1500,1501,8,6600,6601]) ?_;refine Aj ?_;refine Aa (Ap (Bg U (.cell U U A9 U U (.tmp U .nil)) U ?_ (by simp)))
     rw [applyB_bad he hc (by rw [chg_non h38 hout])];rfl
   try simp at h64
   have hin:c.Edge∈G.Edges:=idx_in hk.2 h64.1 (edge_same h64.2)
   refine Am (Ae (Ar (Av [2,3,4,6,7,8,11] [4,6,1500,1501,8]) ?_));refine Ad (Ai A9 ?_);refine A8 Cx ?_;refine Ai ty3 ?_;refine Bq (Cb 7100 (specDeleteEdge G c.Edge.ID (by omega) (by omega)) U U U (.cons (.tm U) U (.cons (.tm U) U .nil)) U U) U ?_;refine Ac (B7 U (.no U) U U fun _=>rfl) U ?_;refine Ac (Ao U (.no U) U U (fun _=>rfl) U) U ?_;refine Ac (Ao U (.no U) U U (fun _=>rfl) U) U ?_;refine Au (Az 12 U U U Cj U U U) U ?_;refine An A9 ?_;refine Bf (Av [2,3,4,6,7,8,11,12,73] [4,6,1500,1501,8,7100,7101,12]) ?_;refine Ah ?_;refine Aa (Ae (Af (Ab ?_)));refine Cg ?_;refine Aa (Al (.tm U) (fun h75=>?_) (fun h75=>?_))
   · try simp at h75
     refine Af (A3 A9 ?_);refine Bq (Cb 7700 (specl3Copy g hz1 (by omega)) U U U (.cons (.tm U) U .nil) U U) U ?_;refine An A9 ?_;refine Bf (Av [2,3,4,6,7,8,11,12,13,75] [4,6,1500,1501,8,7100,7101,12,7700,7701]) ?_;refine Aj ?_;refine Aa (Ap (Bg U (.cell U U A9 U U (.tmp U .nil)) U ?_ (by simp)))
     rw [applyB_bad he hc (by rw [chg_del h38 hin];simpa using h75)];rfl
   try simp at h75
   refine Am (Ad (Ai A9 ?_));refine An A9 ?_;refine Aa (Ar (Le.sw 1500 7100 _) ?_);refine Ar (Le.sw 1501 7101 _) ?_;refine Ad (Ab ?_);refine Bs ?_;refine Ah ?_;refine Aa ?_
   repeat (with_reducible refine A7 ?_)
   refine Round2.next (k+1) ((delG G c.Edge.ID).1) ⟨⟨by omega,(delG_valid (by simpa using h75)).1⟩,(by rw [he,runL_at hc (by rw [chg_del h38 hin];simpa using h75),chg_del h38 hin])⟩ (by omega) (A6 rfl ⟨rfl,rfl,rfl,rfl,rfl,Y⟩ ⟨(by rfl),(by rfl),(by rfl),(by rfl),Y⟩)
 try simp at h24
 refine Bt (Ae (Ar (Av [2,3,4,6,7] [4,6,1500,1501]) ?_));refine Ad (Ai A9 ?_);refine An A9 ?_;refine Bf (Av [2,3,4,6,7] [4,6,1500,1501]) ?_;refine Aj ?_;refine Aa (Ap (Bg U (.cell U U A9 U U (.tmp U .nil)) U ?_ (by simp)))
 rw [applyB_end hg h6 he (by omega)];rfl
theorem specApplyBatch (g:TGraph) (b:TBatch) (hz1:g.Values.length≤1073741824) (hz2:g.Edges.length≤1048576):FnT Tryz.prog 86 [.agg (cGraph g),.agg (cBatch b)] (.tup [.agg (cGraph (applyB g b).1),.one (.v (.bool (applyB g b).2))]):=by
 refine Bb Tryz.func86 U (by kernel_rfl) Tryz.ntmps86 U fun hlen w0=>?_
 try simp [cEdge,cGraph,cChange,cBatch] at hlen
 refine Af (Ac (Bx U U U (.tm U) (ts:=_) (by rfl)) U ?_);refine Ac (Bx U U U (.tm U) (ts:=_) (by rfl)) U ?_;refine Au (Az 4 U U U Cj U U U) U ?_;refine Aj ?_;refine Aa (Ae (Af (A3 A9 ?_)));refine Br (specIsValidGraph g) ?_;refine Cg ?_;refine Ab ?_;refine AWl.fw Bv ?_;refine AWl.lw Ct ?_;refine Ac (Cn U (by exact .not1 U U U U) U (.tmp U (by exact id)) (by exact .t) Tryz.underlying66) U ?_;refine Ac (R_gt U (by exact .not1 U U U U) U (.tmp U (by exact id)) (.const U)) U ?_;refine Ci ?_;refine Aa (Al (.tm U) (fun h16=>?_) (fun h16=>?_))
 · try simp at h16
   refine Ae (Ar (Av [0,1,2,3,4,5] [4]) ?_);refine Ad (A3 A9 ?_);refine Bq (Cb 1800 (specl3Copy g hz1 (by omega)) U U U (.cons (.tm U) U .nil) U U) U ?_;refine An A9 ?_;refine Bf (Av [0,1,2,3,4,5] [4,1800,1801]) ?_;refine Aj ?_;refine Aa (Ap (Bg U (.cell U U A9 U U (.tmp U .nil)) U ?_ (by simp)))
   rw [applyB_no (by grind)];rfl
 try simp at h16
 refine Am (Ae (Ar (Av [0,1,2,3,4,5] [4]) ?_));refine Ad (A3 A9 ?_);refine A3 Cf ?_;refine Bq (Cb 2200 (specl6Apply g b (by grind) (by grind) hz1 hz2) U U U (.cons (.tm U) U (.cons (.tm U) U .nil)) U U) U ?_;refine Ac (B7 U (.no U) U U fun _=>rfl) U ?_;refine Ac (Ao U (.no U) U U (fun _=>rfl) U) U ?_;refine Ac (Ao U (.no U) U U (fun _=>rfl) U) U ?_;refine Au (Az 6 U U U Cj U U U) U ?_;refine An A9 ?_;refine Bf (Av [0,1,2,3,4,5,6,24] [4,2200,2201,6]) ?_;refine Ah ?_;refine Aa (Af (Ai A9 ?_));refine Ab ?_;refine An A9 ?_;refine Bf (Av [0,1,2,3,4,5,6,7,26] [4,2200,2201,6]) ?_;refine Ah ?_;refine Aa (Ap (Bg U (.cell U U A9 U U (.tmp U .nil)) U ?_ (by simp)))
 rfl
end Go.Proofs.YtdhojcaoljhbiaaGreatDoor
