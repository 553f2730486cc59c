import Derived.Test.YtdhojcaoljhbiaaGreatDoorB132xr
set_option linter.unusedVariables false
set_option linter.unusedSimpArgs false
set_option maxRecDepth 100000
set_option maxHeartbeats 1000000
set_option maxRecDepth 100000
namespace Go.Q
open Go.RowKit Go.D
def okHs (h:THistory):Prop:=h.Graphs.length≤8∧∀ g∈h.Graphs,g.Values.length≤1048576∧g.Edges.length≤1048576
def appH (h:THistory) (b:TBatch):THistory×Bool:=
 if validH h=true∧lastV h≠999 then
  (if (applyB (h.Graphs[h.Graphs.length-1]?.getD dGr) b).2=true then
   (if h.Graphs.length+1≤8 then ⟨h.First,h.Graphs++[(applyB (h.Graphs[h.Graphs.length-1]?.getD dGr) b).1]⟩ else ⟨h.First+1,(h.Graphs++[(applyB (h.Graphs[h.Graphs.length-1]?.getD dGr) b).1]).drop 1⟩,true)
  else (h,false))
 else (h,false)
theorem appH_no {h:THistory} {b:TBatch} (hv:¬ (validH h=true∧lastV h≠999)):appH h b=(h,false):=by unfold appH;rw [if_neg hv]
section
variable {h:THistory} {b:TBatch} {x:TGraph} (hv:validH h=true∧lastV h≠999) (hx:h.Graphs[h.Graphs.length-1]?=some x)
include hv hx
theorem appH_bad (ha:(applyB x b).2=false):appH h b=(h,false):=by
 unfold appH
 rw [if_pos hv,hx,Option.getD_some,if_neg (by rw [ha];decide)]
theorem appH_le (ha:(applyB x b).2=true) (hl:h.Graphs.length+1≤8):appH h b=(⟨h.First,h.Graphs++[(applyB x b).1]⟩,true):=by
 unfold appH
 rw [if_pos hv,hx,Option.getD_some,if_pos ha,if_pos hl]
theorem appH_gt (ha:(applyB x b).2=true) (hl:¬ h.Graphs.length+1≤8):appH h b=(⟨h.First+1,(h.Graphs++[(applyB x b).1]).drop 1⟩,true):=by
 unfold appH
 rw [if_pos hv,hx,Option.getD_some,if_pos ha,if_neg hl]
end
theorem hg_eq' {h:THistory} {x y:TGraph} (hy:h.Graphs[0]?=some y):hgOk h x=(validG x&&decide (x.Values=y.Values)):=by
 unfold hgOk;rw [hy];rfl
theorem validH_g {h:THistory} (hv:validH h=true) {x:TGraph} (hx:x∈h.Graphs):validG x=true:=by
 unfold validH at hv
 simp only [Bool.and_eq_true] at hv
 have:=List.all_eq_true.1 hv.1 x hx
 unfold hgOk at this
 simp only [Bool.and_eq_true] at this
 exact this.1
theorem lastV_pos {h:THistory} (hl:lastV h≠0):validH h=true:=by
 unfold lastV at hl
 split at hl
 · assumption
 exact absurd rfl hl
theorem lastV_ge {h:THistory} (hv:validH h=true):1≤lastV h:=by
 have:=validH_r hv
 unfold lastV
 rw [if_pos hv]
 omega
theorem lastV_le9 (h:THistory):0≤lastV h∧lastV h≤999:=by
 unfold lastV
 split
 · rename_i hv;have:=validH_r hv;omega
 omega
theorem lastH_get {h:THistory} (hv:validH h=true):∃ x,h.Graphs[h.Graphs.length-1]?=some x∧validG x=true:=by
 have:=validH_r hv
 refine⟨_,List.getElem?_eq_getElem (show h.Graphs.length-1<h.Graphs.length by omega),validH_g hv (List.getElem_mem _)⟩
end Go.Q
namespace Go.Proofs.YtdhojcaoljhbiaaGreatDoor
open Go.RowKit Go.Q Go.D
theorem specl7CopyK (h:THistory) (hh:okHs h):FnT Tryz.prog 38 [.agg (cHistory h)] (.a (.agg (cHistory h))):=by
 refine Bb Tryz.func38 U (by kernel_rfl) Tryz.ntmps38 U fun hlen w0=>?_
 try simp [cEdge,cGraph,cChange,cBatch,cHistory] at hlen
 have hz2:=hh.1
 refine Af (Ac (Bx U U U (.tm U) (ts:=_) (by rfl)) U ?_);refine Au (Az 2 U U U C9 U U U) U ?_;refine Aa (Af (Bz Dj ?_));refine A3 ty3 ?_;refine Ac (Bw (ps:=[(0,.tmp 7)]) U U U C9 U U st26 (.cons (.tm U) U U fp26_0 .nil) U) U ?_;refine Cp (i:=8) 20001 2 1 U U U ?_;refine Au (Az 3 U U U C9 U U U) U ?_;refine An Be ?_;refine Aa (Ae (Af (Aj ?_)));refine Aa (AW.block (AW.loop1 (fun (k:Nat)=>(k≤h.Graphs.length)∧True) (fun (k:Nat)=>⟨_,[(4,(true,.a (.one (.t (.v (.int .i64 (k:Nat))))))),(1,_),(2,_),(3,_)],[(2,.box [.t (.v (.int .i64 0)),.t (.v (.slice none 0 0))]),(3,.box [.t (.v (.int .i64 h.First)),.rf 20001]),(20001,.row 2 ((h.Graphs.take k).map cGraph))]⟩) (fun (k:Nat)=>h.Graphs.length-k) (0) ⟨Nat.zero_le _,Y⟩ Ay ?_))
 rintro k ⟨hk,he⟩
 refine Ae (Af (Ab ?_));refine Bz Bn ?_;refine A3 Ch ?_;refine Bu (.t) Tryz.underlying24 ?_;refine AWl.lt ?_;refine Aa (Al (.tm U) (fun h13=>?_) (fun h13=>?_))
 · try simp at h13
   obtain⟨x,hx⟩:∃ ξ,h.Graphs[k]?=some ξ:=⟨_,List.getElem?_eq_getElem (by omega)⟩
   have hx9:=hh.2 x (List.mem_of_getElem? hx)
   refine Am (Ae (AW.block (Af (Bz Bn ?_))));refine A3 Ch ?_;refine Ab ?_;refine Ac (Aw U (.no U) U (.tm U) (.tm U) Tryz.underlying24 A9 (fun _=>⟨by omega,(A5 hx)⟩)) U ?_;refine A3 A9 ?_;refine Bq (Cb 2100 (specl3Copy x (by omega) (by omega)) U U U (.cons (.tm U) U .nil) U U) U ?_;refine Au (Az 5 U U U Cj U U U) U ?_;refine An A9 ?_;refine Aa (Ad (A8 Bn ?_));refine Ai Ch ?_;refine Ai A9 ?_;refine Bd (B8 (xs:=[.tmp 24]) 25 U U U (.cons (.tm U) U U .nil) Tryz.underlying24 Cj U U U U) U ?_;refine Cq (Cw U U U (.tm U) U (.tm U) U U Tryz.underlying24 Cj U (by (simp [chunk];omega)) (by (unfold maxLen;simp [chunk];omega))) U ?_;refine A8 Bn ?_;refine An Ch ?_;refine Aa (Ad (Ab ?_));refine Bs ?_;refine Ah ?_;refine Aa ?_
   repeat (with_reducible refine A7 ?_)
   refine Round1.next (k+1) ⟨by omega,Y⟩ (by omega) (A6 rfl ⟨rfl,rfl,rfl,rfl,Y⟩ ⟨(by rfl),(by rfl),(by refine congrArg (fun r=>some (R.row 2 r)) ?_;rw [take_at hx];simp;try rfl),Y⟩)
 try simp at h13
 refine Bt (Af (Ai Be ?_));refine An Be ?_;refine Aa (Ap (Res.one U (.cell U U Be U U .nil) U ?_))
 rw [List.take_of_length_le (l:=h.Graphs) (by omega)];rfl
theorem implcopyHistory (h:THistory) (hh:okHs h):FnT Tryz.prog 31 [.agg (cHistory h)] (.a (.agg (cHistory h))):=by
 refine Bb Tryz.func31 U (by kernel_rfl) Tryz.ntmps31 U fun hlen w0=>?_
 try simp [cEdge,cGraph,cChange,cBatch,cHistory] at hlen
 have hz2:=hh.1
 refine Af (Ac (Bx U U U (.tm U) (ts:=_) (by rfl)) U ?_);refine Au (Az 2 U U U C9 U U U) U ?_;refine Aa (Af (Bz Dj ?_));refine A3 ty3 ?_;refine Ac (Bw (ps:=[(0,.tmp 7)]) U U U C9 U U st26 (.cons (.tm U) U U fp26_0 .nil) U) U ?_;refine Cp (i:=8) 20001 2 1 U U U ?_;refine Au (Az 3 U U U C9 U U U) U ?_;refine An Be ?_;refine Aa (Ae (Af (Bz Bn ?_)));refine A3 Ch ?_;refine Bu (.t) Tryz.underlying24 ?_;refine Ac (Bh U (.no U) U (.const U)) U ?_;refine Aa (AW.block (AW.loop1 (fun (k:Nat)=>(k≤h.Graphs.length)∧True) (fun (k:Nat)=>⟨_,[(12,(true,.a (.one (.t (.v (.int .i64 (k:Nat))))))),(2,_),(3,_),(10,_),(11,_)],[(2,.box [.t (.v (.int .i64 0)),.t (.v (.slice none 0 0))]),(3,.box [.t (.v (.int .i64 h.First)),.rf 20001]),(20001,.row 2 ((h.Graphs.take k).map cGraph))]⟩) (fun (k:Nat)=>h.Graphs.length-k) (0) ⟨Nat.zero_le _,Y⟩ Ay ?_))
 rintro k ⟨hk,he⟩
 refine Af (AWl.lt ?_);refine Aa (Ae (Al (.tm U) (fun h13=>?_) (fun h13=>?_)))
 · try simp at h13
   obtain⟨x,hx⟩:∃ ξ,h.Graphs[k]?=some ξ:=⟨_,List.getElem?_eq_getElem (by omega)⟩
   have hx9:=hh.2 x (List.mem_of_getElem? hx)
   refine Am (Ae (AW.block (Af (Ac (Aw U (.no U) U (.tm U) (.tm U) Tryz.underlying24 A9 (fun _=>⟨by omega,(A5 hx)⟩)) U ?_))));refine A3 A9 ?_;refine Au (Az 5 U U U Cj U U U) U ?_;refine An A9 ?_;refine Aa (AW.dagn 8 14 [[],[0],[2],[0,1],[0,2],[2,3],[0,1,2],[0,2,3],[2,3,4],[0,1,2,3],[0,2,3,4],[0,1,2,3,4],[0,1,2,3,4,5],[0,1,2,3,4,5,6],[0,1,2,3,4,5,6,7]] [(0,0,1),(0,2,2),(1,1,3),(1,2,4),(2,0,4),(2,3,5),(3,2,6),(4,1,6),(4,3,7),(5,0,7),(5,4,8),(6,3,9),(7,1,9),(7,4,10),(8,0,10),(9,4,11),(10,1,11),(11,5,12),(12,6,13),(13,7,14)] (by kernel_rfl) (by kernel_rfl) (by kernel_rfl) ?_);apply Aq (i:=0)
   case ha|ho|hb=>rfl
   case hE=>
    intro w9;refine A8 Bn ?_;exact Ak [2,3,5,10,11,12,13,16] [2,3,20001,5]
   apply Aq (i:=2);rfl;rfl;rfl
   · intro w9;refine Ai A9 ?_;exact Ak [2,3,5,10,11,12,13,18] [2,3,20001,5]
   apply Aq (i:=1);rfl;rfl;rfl
   · intro w9;refine Ai Ch ?_;exact Ak [2,3,5,10,11,12,13,17] [2,3,20001,5]
   apply Aq (i:=2);rfl;rfl;rfl
   · intro w9;refine Ai A9 ?_;exact Ak [2,3,5,10,11,12,13,16,18] [2,3,20001,5]
   apply Ax (i:=0);rfl;rfl;rfl
   · intro w9;refine A8 Bn ?_;exact Aa Ay
   apply Aq (i:=3);rfl;rfl;rfl
   · intro w9;refine Bq (Cb 1900 (implcopyGraph x (by omega) (by omega)) U U U (.cons (.tm U) U .nil) U U) U ?_;exact Ak [2,3,5,10,11,12,13,19] [2,3,20001,5,1900,1901]
   apply Aq (i:=2);rfl;rfl;rfl
   · intro w9;refine Ai A9 ?_;exact Ak [2,3,5,10,11,12,13,17,18] [2,3,20001,5]
   apply Ax (i:=1);rfl;rfl;rfl
   · intro w9;refine Ai Ch ?_;exact Aa Ay
   apply Aq (i:=3);rfl;rfl;rfl
   · intro w9;refine Bq (Cb 1900 (implcopyGraph x (by omega) (by omega)) U U U (.cons (.tm U) U .nil) U U) U ?_;exact Ak [2,3,5,10,11,12,13,16,19] [2,3,20001,5,1900,1901]
   apply Ax (i:=0);rfl;rfl;rfl
   · intro w9;refine A8 Bn ?_;exact Aa Ay
   apply Aq (i:=4);rfl;rfl;rfl
   · intro w9;refine Bd (B8 (xs:=[.tmp 19]) 20 U U U (.cons (.tm U) U U .nil) Tryz.underlying24 Cj U U U U) U ?_;exact Ak [2,3,5,10,11,12,13,20] [2,3,20001,5,20]
   apply Aq (i:=3);rfl;rfl;rfl
   · intro w9;refine Bq (Cb 1900 (implcopyGraph x (by omega) (by omega)) U U U (.cons (.tm U) U .nil) U U) U ?_;exact Ak [2,3,5,10,11,12,13,17,19] [2,3,20001,5,1900,1901]
   apply Ax (i:=1);rfl;rfl;rfl
   · intro w9;refine Ai Ch ?_;exact Aa Ay
   apply Aq (i:=4);rfl;rfl;rfl
   · intro w9;refine Bd (B8 (xs:=[.tmp 19]) 20 U U U (.cons (.tm U) U U .nil) Tryz.underlying24 Cj U U U U) U ?_;exact Ak [2,3,5,10,11,12,13,16,20] [2,3,20001,5,20]
   apply Ax (i:=0);rfl;rfl;rfl
   · intro w9;refine A8 Bn ?_;exact Aa Ay
   apply Aq (i:=4);rfl;rfl;rfl
   · intro w9;refine Bd (B8 (xs:=[.tmp 19]) 20 U U U (.cons (.tm U) U U .nil) Tryz.underlying24 Cj U U U U) U ?_;exact Ak [2,3,5,10,11,12,13,17,20] [2,3,20001,5,20]
   apply Ax (i:=1);rfl;rfl;rfl
   · intro w9;refine Ai Ch ?_;exact Aa Ay
   apply Aq (i:=5);rfl;rfl;rfl
   · intro w9;refine Cq (Cw U U U (.tm U) U (.tm U) U U Tryz.underlying24 Cj U (by (simp [chunk];omega)) (by (unfold maxLen;simp [chunk];omega))) U ?_;exact Ak [2,3,5,10,11,12,13,21] [2,3,20001,5]
   apply Aq (i:=6);rfl;rfl;rfl
   · intro w9;refine A8 Bn ?_;exact Ak [2,3,5,10,11,12,13,21,22] [2,3,20001,5]
   apply Aq (i:=7);rfl;rfl;rfl
   · intro w9;refine An Ch ?_;exact Ak [2,3,5,10,11,12,13] [2,3,20001,5]
   refine Dag.fin (k:=14) U ?_;refine Aa (Ad (Bs ?_));refine Ab ?_;refine Aa ?_
   repeat (with_reducible refine A7 ?_)
   refine Round1.next (k+1) ⟨by omega,Y⟩ (by omega) (A6 rfl ⟨rfl,rfl,rfl,rfl,rfl,Y⟩ ⟨(by rfl),(by rfl),(by refine congrArg (fun r=>some (R.row 2 r)) ?_;rw [take_at hx];simp;try rfl),Y⟩)
 try simp at h13
 refine Bt (Af (Ai Be ?_));refine An Be ?_;refine Aa (Ap (Res.one U (.cell U U Be U U .nil) U ?_))
 rw [List.take_of_length_le (l:=h.Graphs) (by omega)];rfl
theorem implIsValidHistory (h:THistory):FnT Tryz.prog 32 [.agg (cHistory h)] (.a (.one (.v (.bool (validH h))))):=by
 refine Bb Tryz.func32 U (by kernel_rfl) Tryz.ntmps32 U fun hlen w0=>?_
 try simp [cEdge,cGraph,cChange,cBatch,cHistory] at hlen
 refine Af (Ac (Bx U U U (.tm U) (ts:=_) (by rfl)) U ?_);refine Aj ?_;refine Aa (Af (Bz Bn ?_));refine A3 Ch ?_;refine Bu (.t) Tryz.underlying24 ?_;refine Ah ?_;refine Aa (Ae (Af (Ab ?_)));refine Br (implwithin _ _ _) ?_;refine Cg ?_;refine Ab ?_;refine AWl.fw Dj ?_;refine AWl.lw ty3 ?_;refine Co ?_;refine Ac (Dl U (by exact .not1 U U U U) U (.const U) (.tmp U (by exact id)) (fun hq=>by first|omega|(simp at hq;omega))) U ?_;refine Ac (C5 U (by exact .not1 U U U U) U (.tmp U (by exact id)) (.const U) (fun hq=>by first|omega|(simp at hq;omega))) U ?_;refine Ac (R_callq U (by exact .not1 U U U U) U (.cons (.tmp U (by exact id)) U (.cons (.const U) U (.cons (.tmp U (by exact id)) U .nil))) fun hq=>FnT.fr (implwithin _ _ _)) U ?_;refine Ac (Dq U (by exact .not1 U U U U) U (.tmp U (by exact id))) U ?_;refine Ci ?_;refine Aa (Al (.tm U) (fun h20=>?_) (fun h20=>?_))
 · try simp at h20
   have hr:(inB h.Graphs.length 1 8&&inB h.First 1 (999-h.Graphs.length+1))=false:=(by revert h20;cases inB h.Graphs.length 1 8<;>simp)
   refine Ae (Ar (Av [0,1,2,3] []) ?_);refine Ad (Aj ?_);refine Aa (Ap (By U U ?_))
   unfold validH;rw [hr,Bool.and_false]
 try simp at h20
 have hr:(inB h.Graphs.length 1 8&&inB h.First 1 (999-h.Graphs.length+1))=true:=(by revert h20;cases inB h.Graphs.length 1 8<;>simp)
 have hl1:1≤h.Graphs.length:=(by have h5:=hr;unfold inB at h5;simp at h5;omega)
 obtain⟨y,hy⟩:∃ ξ,h.Graphs[0]?=some ξ:=⟨_,List.getElem?_eq_getElem (by omega)⟩
 refine Am (Ae (Ae (Ar (Av [0,1,2,3] []) ?_)));refine Ad (Bz Bn ?_);refine A3 Ch ?_;refine Bu (.t) Tryz.underlying24 ?_;refine Ac (Bh U (.no U) U (.const U)) U ?_;refine Aa (AW.block (C8 (β:=Nat) (fun x=>x≤(h.Graphs).length∧∀ j y,j<x→(h.Graphs)[j]?=some y→(hgOk h) y=true) (fun x=>⟨_,[(24,(true,.a (.one (.t (.v (.int .i64 (x:Nat))))))),(1,_),(22,_),(23,_)],[]⟩) (fun x=>(h.Graphs).length-x) (0) ⟨Nat.zero_le _,fun j y hj=>absurd hj (Nat.not_lt_zero j)⟩ (A6 U ⟨U,U,U,U,Y⟩ trivial) ?_));intro k hk;refine Af (AWl.lt ?_);refine Aa (Ae (Al (.tm U) (fun hlt=>?_) (fun hlt=>?_)))
 · try simp at hlt
   obtain⟨x,hx⟩:∃ ξ,(h.Graphs)[k]?=some ξ:=⟨_,List.getElem?_eq_getElem (by exact hlt)⟩
   refine Am (Ae (AW.block (Af (Ac ((Aw U (.no U) U (.tm U) (.tm U) Tryz.underlying24 A9 (fun _=>⟨by omega,(by exact A5 (by assumption))⟩))) U ?_))));refine A3 A9 ?_;refine Au (Az 5 U U U Cj U U U) U ?_;refine An A9 ?_;refine Aa (Ae (Cv 14 (nthB [[],[0],[0,1],[0,1,2],[0,1,2,3],[0,1,2,3,4],[0,1,2,3],[0,1,2,3,6],[0,1,2,3,6,7],[0,1,2,3,6,7,8],[0,1,2,3,6,7,8,9],[0,1,2,3,4,5,6,7,8,9,10],[0,1,2,3,4,5,6,7,8,9,10,11],[0,1,2,3,4,5,6,7,8,9,10,11,12]]) (by kernel_rfl) (by kernel_rfl) (by kernel_rfl) ?_));refine DrawC.s (fun _ hs=>(by exact Bm U (.no U) (Ag hs U) (hs.tm U) (hs.res _ _ U) A9 U U)) ?_;refine DrawC.s (fun _ hs=>Bo (FnT.fr (implIsValidGraph _)) U (.no U) (Ag hs U) (.cons (hs.tm U) (readA_sup hs U) .nil)) ?_;refine DrawC.s (fun _ hs=>Dq U (.no U) (Ag hs U) (hs.tm U)) ?_;refine Bp ?_;refine DrawC.s (fun _ hs=>(by exact Bk U (by exact hs.n1) (Ag hs U) (hs.tm U) Cu)) ?_
   refine DrawC.s (fun _ hs=>(by exact Bm U (by exact hs.n1) (Ag hs U) (hs.ti U) (hs.res _ _ U) Dm U U)) ?_;refine DrawC.s (fun _ hs=>(by exact Bc U (by exact hs.n1) (Ag hs U) (hs.tm U) Bn)) ?_;refine DrawC.s (fun _ hs=>(by exact Bl U (by exact hs.n1) (Ag hs U) (hs.ti U) Ch U U)) ?_;refine DrawC.s (fun _ hs=>(by exact Aw U (by exact hs.n1) (Ag hs U) (hs.ti U) (.const U) Tryz.underlying24 A9 (fun _=>⟨by omega,A5 hy⟩))) ?_;refine DrawC.s (fun _ hs=>(by exact Bc U (by exact hs.n1) (Ag hs U) (hs.ti U) Cu)) ?_;refine DrawC.s (fun _ hs=>(by exact Bl U (by exact hs.n1) (Ag hs U) (hs.ti U) Dm U U)) ?_;refine DrawC.s (fun _ hs=>R_callq U (by exact hs.n1) (Ag hs U) (.cons (hs.ti U) (readA_sup hs U) (.cons (hs.ti U) (readA_sup hs U) .nil)) fun hq=>FnT.fr (slicesEqualInt _ _)) ?_;refine DrawC.s (fun _ hs=>Dq U (by exact hs.n1) (Ag hs U) (hs.ti U)) ?_
   refine DrawC.s (fun _ hs=>R_or U (.no U) (Ag hs U) (hs.tm U) (hs.ti U)) ?_;refine Cm U U ?_;refine Aa (Al (.tm U) (fun h41=>?_) (fun h41=>?_))
   · try simp at h41
     refine Ae (Ar (Av [1,5,22,23,24] [5]) ?_);refine Ad (Aj ?_);refine Aa (Ap (By U U ?_))
     unfold validH;rw [not_all hx (by rw [hg_eq' hy];revert h41;cases validG x<;>simp)];rfl
   try simp at h41
   refine Am (Ar (Av [1,5,22,23,24] [5]) ?_);refine Ad (Bs ?_);refine Ab ?_;refine Aa ?_;refine Round.next (k+1) ⟨by omega,each_succ hk.2 hx (by rw [hg_eq' hy];revert h41;cases validG x<;>simp)⟩ (by omega) (A6 rfl ⟨rfl,rfl,rfl,rfl,Y⟩ trivial)
 try simp at hlt
 refine Bt (Af (Aj ?_));refine Aa (Ap (By U U ?_))
 unfold validH;rw [each_all hk.2 (by omega),hr];rfl
theorem implLatestVersion (h:THistory):FnT Tryz.prog 35 [.agg (cHistory h)] (.a (.one (.v (.int .i64 (lastV h))))):=by
 refine Bb Tryz.func35 U (by kernel_rfl) Tryz.ntmps35 U fun hlen w0=>?_
 try simp [cEdge,cGraph,cChange,cBatch,cHistory] at hlen
 refine Af (Ac (Bx U U U (.tm U) (ts:=_) (by rfl)) U ?_);refine Aj ?_;refine Aa (Ae (Af (A3 Be ?_)));refine Br (implIsValidHistory h) ?_;refine Cg ?_;refine Aa (Al (.tm U) (fun h5=>?_) (fun h5=>?_))
 · try simp at h5
   refine Af (Aj ?_);refine Aa (Ap (By U U ?_))
   unfold lastV;rw [if_neg (by simpa using h5)]
 try simp at h5
 have hv:=validH_r (by simpa using h5)
 refine Am (Af (Bz Dj ?_));refine A3 ty3 ?_;refine Bz Bn ?_;refine A3 Ch ?_;refine Bu (.t) Tryz.underlying24 ?_;refine Ac (C5 U (.no U) U (.tm U) (.tm U) (fun _=>by omega)) U ?_;refine Cy ?_;refine Ah ?_;refine Aa (Ap (By U U ?_))
 unfold lastV;rw [if_pos (by simpa using h5)]
theorem implEqualHistories (a b:THistory):FnT Tryz.prog 9 [.agg (cHistory a),.agg (cHistory b)] (.a (.one (.v (.bool (decide (a=b)))))):=by
 refine Bb Tryz.func9 U (by kernel_rfl) Tryz.ntmps9 U fun hlen w0=>?_
 try simp [cEdge,cGraph,cChange,cBatch,cHistory] at hlen
 refine Af (Ac (Bx U U U (.tm U) (ts:=_) (by rfl)) U ?_);refine Ac (Bx U U U (.tm U) (ts:=_) (by rfl)) U ?_;refine Aj ?_;refine Aa (Af (Bz Dj ?_));refine A3 ty3 ?_;refine Bz Dj ?_;refine A3 ty3 ?_;refine AWl.eq ?_;refine Ab ?_;refine AWl.fy Bn ?_;refine AWl.ly Ch ?_;refine AWl.fy Bn ?_;refine AWl.ly Ch ?_;refine Ac (R_callq U (by exact .yes1 U U U U) U (.cons (.tmp U (by exact id)) U (.cons (.tmp U (by exact id)) U (.cons .func U .nil))) fun hq=>FnT.fr (EqualFuncGraph _ _ _ _ _ fun x y=>(implEqualGraphs' x y).fr)) U ?_;refine C1 ?_;refine Ah ?_;refine Aa (Ap (By U U ?_))
 rw [eqB_eq];cases a;cases b;simp
theorem specAppendBatchK (h:THistory) (b:TBatch) (hh:okHs h):FrX Tryz.prog 40 [.agg (cHistory h),.agg (cBatch b)] (fun z=>z=appH h b) hOut:=by
 refine FrX.walk Tryz.func40 rfl (by kernel_rfl) Tryz.ntmps40 rfl fun w0=>?_
 refine Af (Ac (Bx U U U (.tm U) (ts:=_) (by rfl)) U ?_);refine Ac (Bx U U U (.tm U) (ts:=_) (by rfl)) U ?_;refine Au (Az 4 U U U C9 U U U) U ?_;refine Aj ?_;refine Aa (Af (A3 Be ?_));refine Bq (Cb 1000 (specl7CopyK h hh) U U U (.cons (.tm U) U .nil) U U) U ?_;refine Au (Az 6 U U U C9 U U U) U ?_;refine An Be ?_;refine Aa (Ae (Af (A3 Be ?_)));refine Br (specIsValidHistory h) ?_;refine Cg ?_;refine Ab ?_;refine Ac (Bl U (by exact .not1 U U U U) U (.tmp U (by exact fun _=>rfl)) Be U U) U ?_;refine Ac (R_callq U (by exact .not1 U U U U) U (.cons (.tmp U (by exact id)) U .nil) fun hq=>FnT.fr (specLatestVersion h)) U ?_;refine Ac (R_eq U (by exact .not1 U U U U) U (.tmp U (by exact id)) (.const U)) U ?_;refine Ci ?_;refine Aa (Al (.tm U) (fun h18=>?_) (fun h18=>?_))
 · try simp at h18
   have hno:¬ (validH h=true∧lastV h≠999):=(by revert h18;cases validH h<;>simp)
   refine Af (Ai Be ?_);refine An Be ?_;refine Aj ?_;refine Aa (Ap ?_);apply ERRes.mk (x:=(h,false))
   case h=>
    refine ResR.many U (.cell U U Be U U (.tmp U .nil)) U ?_ (by simp)
    rfl
   case hp=>exact (appH_no hno).symm
 try simp at h18
 have hyes:validH h=true∧lastV h≠999:=(by revert h18;cases validH h<;>simp)
 have hv:=validH_r hyes.1
 obtain⟨x,hx,hxv⟩:=lastH_get hyes.1
 have hxz:=validG_z hxv
 refine Am (Ae (Ar (Av [0,1,2,3,4,5,6,9,10,11,12,13,14,15,16,17,18] [4,1000,6]) ?_));apply C3 (N:=15) (k:=13) (Hs:=[0,1,2,3,4,5,6,7,8]) (ms:=[[],[9],[13],[9,10],[9,13],[9,10,11],[9,10,12],[9,10,13],[9,10,11,12],[9,10,11,13],[9,10,12,13],[9,10,11,12,13],[9,10,11,13,14],[9,10,11,12,13,14]]) (es:=[(0,9,1),(0,13,2),(1,10,3),(1,13,4),(2,9,4),(3,11,5),(3,12,6),(3,13,7),(4,10,7),(5,12,8),(6,11,8),(5,13,9),(7,11,9),(6,13,10),(7,12,10),(8,13,11),(9,12,11),(10,11,11),(9,14,12),(11,14,13),(12,12,13)]) (σ1:=_) (SM:=⟨_,[(0,_),(1,_),(2,_),(3,_),(4,_),(5,_),(6,_),(9,_),(10,_),(11,_),(12,_),(13,_),(14,_),(15,_),(16,_),(17,_),(18,_),(21,_),(22,_),(23,_),(24,_),(25,_),(26,_),(27,_),(28,_),(29,_)],[(4,_),(1000,_),(6,_)]⟩)
 case hm=>kernel_rfl
 case hB=>kernel_rfl
 case hP=>kernel_rfl
 case hL=>kernel_rfl
 case hN=>rfl
 case hpre=>
  apply As (P:=Tryz.prog) 0 rfl ((by exact Bc rfl (.no rfl) rfl (.tm rfl) Bn)) (by exact HasV.ad (x:=.tmp 2) (.tm rfl)) rfl rfl rfl;apply As (P:=Tryz.prog) 1 rfl ((by exact Bl rfl (.no rfl) rfl (.tm rfl) Ch rfl rfl)) (by exact HasV.ld (x:=.tmp 21) (.tm rfl) rfl rfl) rfl rfl rfl;apply As (P:=Tryz.prog) 2 rfl ((by exact Bc rfl (.no rfl) rfl (.tm rfl) Bn)) (by exact HasV.ad (x:=.tmp 2) (.tm rfl)) rfl rfl rfl;apply As (P:=Tryz.prog) 3 rfl ((by exact Bl rfl (.no rfl) rfl (.tm rfl) Ch rfl rfl)) (by exact HasV.ld (x:=.tmp 23) (.tm rfl) rfl rfl) rfl rfl rfl;apply As (P:=Tryz.prog) 4 rfl ((by exact Cn rfl (.no rfl) rfl (.tm rfl) (by exact .t) Tryz.underlying24)) (by exact .val rfl) rfl rfl rfl;apply As (P:=Tryz.prog) 5 rfl (Dl rfl (.no rfl) rfl (.tm rfl) (.const rfl) (fun _=>by omega)) (by exact .val rfl) rfl rfl rfl
  apply As (P:=Tryz.prog) 6 rfl ((by exact Aw rfl (.no rfl) rfl (.tm rfl) (.tm rfl) Tryz.underlying24 A9 (fun _=>⟨by omega,A5 (by rw [←hx];congr 1;omega)⟩))) (by exact HasV.ix (x:=.tmp 22) (.tm rfl) (y:=.tmp 26) (.tm rfl) Tryz.underlying24 A9 (fun _=>⟨by omega,A5 (by rw [←hx];congr 1;omega)⟩)) rfl rfl rfl;apply As (P:=Tryz.prog) 7 rfl ((by exact Bl rfl (.no rfl) rfl (.tm rfl) A9 rfl rfl)) (by exact HasV.ld (x:=.tmp 27) (.tm rfl) rfl rfl) rfl rfl rfl;apply As (P:=Tryz.prog) 8 rfl ((by exact Bl rfl (.no rfl) rfl (.tm rfl) Cf rfl rfl)) (by exact HasV.ld (x:=.tmp 3) (.tm rfl) rfl rfl) rfl rfl rfl;exact PreOk.nil
 case hS=>exact A4
 case hH=>
  refine⟨⟨_,_,_,rfl,rfl,rfl,fun σ' hs=>(by exact Bc rfl (.no rfl) (Ag hs rfl) (.tm (hs.slots _ _ rfl)) Bn)⟩,?_⟩
  refine⟨⟨_,_,_,rfl,rfl,rfl,fun σ' hs=>(by exact Bl rfl (.no rfl) (Ag hs rfl) (.tm (hs.slots _ _ rfl)) Ch rfl rfl)⟩,?_⟩
  refine⟨⟨_,_,_,rfl,rfl,rfl,fun σ' hs=>(by exact Bc rfl (.no rfl) (Ag hs rfl) (.tm (hs.slots _ _ rfl)) Bn)⟩,?_⟩
  refine⟨⟨_,_,_,rfl,rfl,rfl,fun σ' hs=>(by exact Bl rfl (.no rfl) (Ag hs rfl) (.tm (hs.slots _ _ rfl)) Ch rfl rfl)⟩,?_⟩
  refine⟨⟨_,_,_,rfl,rfl,rfl,fun σ' hs=>(by exact Cn rfl (.no rfl) (Ag hs rfl) (.tm (hs.slots _ _ rfl)) (by exact .t) Tryz.underlying24)⟩,?_⟩
  refine⟨⟨_,_,_,rfl,rfl,rfl,fun σ' hs=>Dl rfl (.no rfl) (Ag hs rfl) (.tm (hs.slots _ _ rfl)) (.const rfl) (fun _=>by omega)⟩,?_⟩
  refine⟨⟨_,_,_,rfl,rfl,rfl,fun σ' hs=>(by exact Aw rfl (.no rfl) (Ag hs rfl) (.tm (hs.slots _ _ rfl)) (.tm (hs.slots _ _ rfl)) Tryz.underlying24 A9 (fun _=>⟨by omega,A5 (by rw [←hx];congr 1;omega)⟩))⟩,?_⟩
  refine⟨⟨_,_,_,rfl,rfl,rfl,fun σ' hs=>(Bl rfl (.no rfl) (Ag hs rfl) (.tm (hs.slots _ _ rfl)) A9 rfl rfl)⟩,?_⟩
  refine⟨⟨_,_,_,rfl,rfl,rfl,fun σ' hs=>(by exact Bl rfl (.no rfl) (Ag hs rfl) (.tm (hs.slots _ _ rfl)) Cf rfl rfl)⟩,?_⟩
  trivial
 apply Dh.new0 (i:=9);rfl;rfl;rfl
 · intro w9 _;refine Bq (Cb 3000 (specApplyBatch x b (by omega) (by omega)) U U U (.cons (.tm U) U (.cons (.tm U) U .nil)) U U) U ?_;exact Ak [0,1,2,3,4,5,6,9,10,11,12,13,14,15,16,17,18,21,22,23,24,25,26,27,28,29,30] [4,1000,6,3000,3001]
 intros;exact A4
 apply Dh.new0 (i:=13);rfl;rfl;rfl
 · intro w9 _;refine Au (Az 7 U U U Cj U U U) U ?_;exact Ak [0,1,2,3,4,5,6,7,9,10,11,12,13,14,15,16,17,18,21,22,23,24,25,26,27,28,29] [4,1000,6,7]
 intros;exact A4
 apply Dh.new0 (i:=10);rfl;rfl;rfl
 · intro w9 _;refine Ac (B7 U (.no U) U U fun _=>rfl) U ?_;exact Ak [0,1,2,3,4,5,6,9,10,11,12,13,14,15,16,17,18,20,21,22,23,24,25,26,27,28,29] [4,1000,6,3000,3001]
 intros;exact A4
 apply Dh.new0 (i:=13);rfl;rfl;rfl
 · intro w9 _;refine Au (Az 7 U U U Cj U U U) U ?_;exact Ak [0,1,2,3,4,5,6,7,9,10,11,12,13,14,15,16,17,18,21,22,23,24,25,26,27,28,29,30] [4,1000,6,3000,3001,7]
 intros;exact A4
 apply Dh.old0 (i:=9);rfl;rfl;rfl
 · intro w9 _;refine Bq (Cb 3000 (specApplyBatch x b (by omega) (by omega)) U U U (.cons (.tm U) U (.cons (.tm U) U .nil)) U U) U ?_;exact Aa Ay
 apply Dh.new0 (i:=11);rfl;rfl;rfl
 · intro w9 _;refine Ac (Ao U (.no U) U U (fun _=>rfl) U) U ?_;exact Ak [0,1,2,3,4,5,6,9,10,11,12,13,14,15,16,17,18,20,21,22,23,24,25,26,27,28,29,31] [4,1000,6,3000,3001]
 intros;exact A4
 apply Dh.new0 (i:=12);rfl;rfl;rfl
 · intro w9 _;refine Ac (Ao U (.no U) U U (fun _=>rfl) U) U ?_;exact Ak [0,1,2,3,4,5,6,9,10,11,12,13,14,15,16,17,18,20,21,22,23,24,25,26,27,28,29,32] [4,1000,6,3000,3001]
 intros;exact A4
 apply Dh.new0 (i:=13);rfl;rfl;rfl
 · intro w9 _;refine Au (Az 7 U U U Cj U U U) U ?_;exact Ak [0,1,2,3,4,5,6,7,9,10,11,12,13,14,15,16,17,18,20,21,22,23,24,25,26,27,28,29] [4,1000,6,3000,3001,7]
 intros;exact A4
 apply Dh.old0 (i:=10);rfl;rfl;rfl
 · intro w9 _;refine Ac (B7 U (.no U) U U fun _=>rfl) U ?_;exact Aa Ay
 apply Dh.new0 (i:=12);rfl;rfl;rfl
 · intro w9 _;refine Ac (Ao U (.no U) U U (fun _=>rfl) U) U ?_;exact Ak [0,1,2,3,4,5,6,9,10,11,12,13,14,15,16,17,18,21,22,23,24,25,26,27,28,29,31,32] [4,1000,6,3000,3001]
 intros;exact A4
 apply Dh.old0 (i:=11);rfl;rfl;rfl
 · intro w9 _;refine Ac (Ao U (.no U) U U (fun _=>rfl) U) U ?_;exact Aa Ay
 apply Dh.new0 (i:=13);rfl;rfl;rfl
 · intro w9 _;refine Au (Az 7 U U U Cj U U U) U ?_;exact Ak [0,1,2,3,4,5,6,7,9,10,11,12,13,14,15,16,17,18,20,21,22,23,24,25,26,27,28,29,31] [4,1000,6,3000,3001,7]
 intros;exact A4
 apply Dh.old0 (i:=11);rfl;rfl;rfl
 · intro w9 _;refine Ac (Ao U (.no U) U U (fun _=>rfl) U) U ?_;exact Aa Ay
 apply Dh.new0 (i:=13);rfl;rfl;rfl
 · intro w9 _;refine Au (Az 7 U U U Cj U U U) U ?_;exact Ak [0,1,2,3,4,5,6,7,9,10,11,12,13,14,15,16,17,18,20,21,22,23,24,25,26,27,28,29,32] [4,1000,6,3000,3001,7]
 intros;exact A4
 apply Dh.old0 (i:=12);rfl;rfl;rfl
 · intro w9 _;refine Ac (Ao U (.no U) U U (fun _=>rfl) U) U ?_;exact Aa Ay
 apply Dh.new0 (i:=13);rfl;rfl;rfl
 · intro w9 _;refine Au (Az 7 U U U Cj U U U) U ?_;exact Ak [0,1,2,3,4,5,6,7,9,10,11,12,13,14,15,16,17,18,21,22,23,24,25,26,27,28,29,31,32] [4,1000,6,3000,3001,7]
 intros;exact A4
 apply Dh.old0 (i:=12);rfl;rfl;rfl
 · intro w9 _;refine Ac (Ao U (.no U) U U (fun _=>rfl) U) U ?_;exact Aa Ay
 apply Dh.old0 (i:=11);rfl;rfl;rfl
 · intro w9 _;refine Ac (Ao U (.no U) U U (fun _=>rfl) U) U ?_;exact Aa Ay
 apply Dh.new0 (i:=14);rfl;rfl;rfl
 · intro w9 _;refine An A9 ?_;exact Ak [0,1,2,3,4,5,6,7,9,10,11,12,13,14,15,16,17,18,20,21,22,23,24,25,26,27,28,29] [4,1000,6,3000,3001,7]
 intros;exact A4
 apply Dh.new0 (i:=14);rfl;rfl;rfl
 · intro w9 _;refine An A9 ?_;exact Ak [0,1,2,3,4,5,6,7,9,10,11,12,13,14,15,16,17,18,21,22,23,24,25,26,27,28,29,32] [4,1000,6,3000,3001,7]
 intros;exact A4
 apply Dh.old0 (i:=12);rfl;rfl;rfl
 · intro w9 _;refine Ac (Ao U (.no U) U U (fun _=>rfl) U) U ?_;exact Aa Ay
 refine Dh.fin0 (k:=13) rfl ?_;intro  hp
 obtain _:=hp
 refine Ah ?_;refine Aa (Ae (Af (Ab ?_)));refine Cg ?_;refine Aa (Al (.tm U) (fun h34=>?_) (fun h34=>?_))
 · try simp at h34
   refine Af (Ai Be ?_);refine An Be ?_;refine Aj ?_;refine Aa (Ap ?_);apply ERRes.mk (x:=(h,false))
   case h=>
    refine ResR.many U (.cell U U Be U U (.tmp U .nil)) U ?_ (by simp)
    rfl
   case hp=>exact (appH_bad hyes hx (by simpa using h34)).symm
 try simp at h34
 refine Am (Af (A8 Bn ?_));refine Ai Ch ?_;refine Ai A9 ?_;refine Bd (B8 (xs:=[.tmp 38]) 39 U U U (.cons (.tm U) U U .nil) Tryz.underlying24 Cj U U U U) U ?_;refine Cq (Cw U U U (.tm U) U (.tm U) U U Tryz.underlying24 Cj U (by (simp [chunk];omega)) (by (unfold maxLen;simp [chunk];omega))) U ?_;refine A8 Bn ?_;refine An Ch ?_;refine Aa (Ae (Af (A8 Bn ?_)));refine Ai Ch ?_;refine Ac (R_len U (.no U) U (.tm U) (by exact .rf U) Tryz.underlying24) U ?_;refine Db ?_;refine Aa (Al (.tm U) (fun h45=>?_) (fun h45=>?_))
 · try simp at h45
   refine Af (A8 Bn ?_);refine Ai Ch ?_;refine Ac (Dd (n:=1) U (.no U) U (.tm U) U (.yes (.const U) (fun _=>by first|rfl|omega|(simp<;>omega))) .no Tryz.underlying24 A9 (fun _=>⟨by simp [chunk],Nat.le_refl _⟩)) U ?_;refine A8 Bn ?_;refine An Ch ?_;refine Aa (Ad (A8 Dj ?_));refine Ai ty3 ?_;refine Bs ?_;refine A8 Dj ?_;refine An ty3 ?_;refine Aa (Af (Ai Be ?_));refine An Be ?_;refine Aj ?_;refine Aa (Ap ?_);apply ERRes.mk (x:=(⟨h.First+1,(h.Graphs++[(applyB x b).1]).drop 1⟩,true))
   case h=>
    refine ResR.many U (.cell U U Be U U (.tmp U .nil)) U ?_ (by simp);exact congrArg (fun r=>[V0.agg [T.v (.int .i64 (h.First+1)),T.sl 2 r],V0.one (.v (.bool true))]) (by rw [List.take_of_length_le (Nat.le_refl _)];simp [chunk,cGraph,List.map_drop])
   case hp=>exact (appH_gt hyes hx (by simpa using h34) (by simp [chunk] at h45;omega)).symm
 try simp at h45
 refine Am (Af (Ai Be ?_));refine An Be ?_;refine Aj ?_;refine Aa (Ap ?_);apply ERRes.mk (x:=(⟨h.First,h.Graphs++[(applyB x b).1]⟩,true))
 case h=>
  refine ResR.many U (.cell U U Be U U (.tmp U .nil)) U ?_ (by simp);exact congrArg (fun r=>[V0.agg [T.v (.int .i64 h.First),T.sl 2 r],V0.one (.v (.bool true))]) (by simp [chunk,cGraph])
 case hp=>exact (appH_le hyes hx (by simpa using h34) (by simp [chunk] at h45;omega)).symm
theorem implAppendBatch (h:THistory) (b:TBatch) (hh:okHs h):FrX Tryz.prog 37 [.agg (cHistory h),.agg (cBatch b)] (fun z=>z=appH h b) hOut:=by
 refine FrX.walk Tryz.func37 rfl (by kernel_rfl) Tryz.ntmps37 rfl fun w0=>?_
 refine Af (Ac (Bx U U U (.tm U) (ts:=_) (by rfl)) U ?_);refine Ac (Bx U U U (.tm U) (ts:=_) (by rfl)) U ?_;refine Au (Az 4 U U U C9 U U U) U ?_;refine Aj ?_;refine Aa (Af (A3 Be ?_));refine Bq (Cb 1100 (implcopyHistory h hh) U U U (.cons (.tm U) U .nil) U U) U ?_;refine Au (Az 6 U U U C9 U U U) U ?_;refine An Be ?_;refine Aa (Af (A3 Be ?_));refine Br (implLatestVersion h) ?_;refine Ah ?_;refine Aa (Ae (Af (Ab ?_)));refine Ck ?_;refine Ab ?_;refine Co ?_;refine Ac (R_eq U (by exact .not1 U U U U) U (.tmp U (by exact id)) (.const U)) U ?_;refine Ci ?_;refine Aa (Al (.tm U) (fun h19=>?_) (fun h19=>?_))
 · try simp at h19
   have hno:¬ (validH h=true∧lastV h≠999):=(fun e=>by have h1:=lastV_ge e.1;(have h2:lastV h=0∨lastV h=999:=(by simpa using h19));have h3:=e.2;omega)
   refine Af (Ai Be ?_);refine An Be ?_;refine Aj ?_;refine Aa (Ap ?_);apply ERRes.mk (x:=(h,false))
   case h=>
    refine ResR.many U (.cell U U Be U U (.tmp U .nil)) U ?_ (by simp)
    rfl
   case hp=>exact (appH_no hno).symm
 try simp at h19
 have hne:lastV h≠0∧lastV h≠999:=(by simpa using h19)
 have hyes:validH h=true∧lastV h≠999:=⟨lastV_pos hne.1,hne.2⟩
 have hv:=validH_r hyes.1
 obtain⟨x,hx,hxv⟩:=lastH_get hyes.1
 have hxz:=validG_z hxv
 refine Am (Ae (Ar (Av [0,1,2,3,4,5,6,7,10,11,12,13,14,15,16,17,18,19] [4,1100,6]) ?_));apply C3 (N:=15) (k:=13) (Hs:=[0,1,2,3,4,5,6,7,8]) (ms:=[[],[9],[13],[9,10],[9,13],[9,10,11],[9,10,12],[9,10,13],[9,10,11,12],[9,10,11,13],[9,10,12,13],[9,10,11,12,13],[9,10,11,13,14],[9,10,11,12,13,14]]) (es:=[(0,9,1),(0,13,2),(1,10,3),(1,13,4),(2,9,4),(3,11,5),(3,12,6),(3,13,7),(4,10,7),(5,12,8),(6,11,8),(5,13,9),(7,11,9),(6,13,10),(7,12,10),(8,13,11),(9,12,11),(10,11,11),(9,14,12),(11,14,13),(12,12,13)]) (σ1:=_) (SM:=⟨_,[(0,_),(1,_),(2,_),(3,_),(4,_),(5,_),(6,_),(7,_),(10,_),(11,_),(12,_),(13,_),(14,_),(15,_),(16,_),(17,_),(18,_),(19,_),(22,_),(23,_),(24,_),(25,_),(26,_),(27,_),(28,_),(29,_),(30,_)],[(4,_),(1100,_),(6,_)]⟩)
 case hm=>kernel_rfl
 case hB=>kernel_rfl
 case hP=>kernel_rfl
 case hL=>kernel_rfl
 case hN=>rfl
 case hpre=>
  apply As (P:=Tryz.prog) 0 rfl ((by exact Bc rfl (.no rfl) rfl (.tm rfl) Bn)) (by exact HasV.ad (x:=.tmp 2) (.tm rfl)) rfl rfl rfl;apply As (P:=Tryz.prog) 1 rfl ((by exact Bl rfl (.no rfl) rfl (.tm rfl) Ch rfl rfl)) (by exact HasV.ld (x:=.tmp 22) (.tm rfl) rfl rfl) rfl rfl rfl;apply As (P:=Tryz.prog) 2 rfl ((by exact Bc rfl (.no rfl) rfl (.tm rfl) Bn)) (by exact HasV.ad (x:=.tmp 2) (.tm rfl)) rfl rfl rfl;apply As (P:=Tryz.prog) 3 rfl ((by exact Bl rfl (.no rfl) rfl (.tm rfl) Ch rfl rfl)) (by exact HasV.ld (x:=.tmp 24) (.tm rfl) rfl rfl) rfl rfl rfl;apply As (P:=Tryz.prog) 4 rfl ((by exact Cn rfl (.no rfl) rfl (.tm rfl) (by exact .t) Tryz.underlying24)) (by exact .val rfl) rfl rfl rfl;apply As (P:=Tryz.prog) 5 rfl (Dl rfl (.no rfl) rfl (.tm rfl) (.const rfl) (fun _=>by omega)) (by exact .val rfl) rfl rfl rfl
  apply As (P:=Tryz.prog) 6 rfl ((by exact Aw rfl (.no rfl) rfl (.tm rfl) (.tm rfl) Tryz.underlying24 A9 (fun _=>⟨by omega,A5 (by rw [←hx];congr 1;omega)⟩))) (by exact HasV.ix (x:=.tmp 23) (.tm rfl) (y:=.tmp 27) (.tm rfl) Tryz.underlying24 A9 (fun _=>⟨by omega,A5 (by rw [←hx];congr 1;omega)⟩)) rfl rfl rfl;apply As (P:=Tryz.prog) 7 rfl ((by exact Bl rfl (.no rfl) rfl (.tm rfl) A9 rfl rfl)) (by exact HasV.ld (x:=.tmp 28) (.tm rfl) rfl rfl) rfl rfl rfl;apply As (P:=Tryz.prog) 8 rfl ((by exact Bl rfl (.no rfl) rfl (.tm rfl) Cf rfl rfl)) (by exact HasV.ld (x:=.tmp 3) (.tm rfl) rfl rfl) rfl rfl rfl;exact PreOk.nil
 case hS=>exact A4
 case hH=>
  refine⟨⟨_,_,_,rfl,rfl,rfl,fun σ' hs=>(by exact Bc rfl (.no rfl) (Ag hs rfl) (.tm (hs.slots _ _ rfl)) Bn)⟩,?_⟩
  refine⟨⟨_,_,_,rfl,rfl,rfl,fun σ' hs=>(by exact Bl rfl (.no rfl) (Ag hs rfl) (.tm (hs.slots _ _ rfl)) Ch rfl rfl)⟩,?_⟩
  refine⟨⟨_,_,_,rfl,rfl,rfl,fun σ' hs=>(by exact Bc rfl (.no rfl) (Ag hs rfl) (.tm (hs.slots _ _ rfl)) Bn)⟩,?_⟩
  refine⟨⟨_,_,_,rfl,rfl,rfl,fun σ' hs=>(by exact Bl rfl (.no rfl) (Ag hs rfl) (.tm (hs.slots _ _ rfl)) Ch rfl rfl)⟩,?_⟩
  refine⟨⟨_,_,_,rfl,rfl,rfl,fun σ' hs=>(by exact Cn rfl (.no rfl) (Ag hs rfl) (.tm (hs.slots _ _ rfl)) (by exact .t) Tryz.underlying24)⟩,?_⟩
  refine⟨⟨_,_,_,rfl,rfl,rfl,fun σ' hs=>Dl rfl (.no rfl) (Ag hs rfl) (.tm (hs.slots _ _ rfl)) (.const rfl) (fun _=>by omega)⟩,?_⟩
  refine⟨⟨_,_,_,rfl,rfl,rfl,fun σ' hs=>(by exact Aw rfl (.no rfl) (Ag hs rfl) (.tm (hs.slots _ _ rfl)) (.tm (hs.slots _ _ rfl)) Tryz.underlying24 A9 (fun _=>⟨by omega,A5 (by rw [←hx];congr 1;omega)⟩))⟩,?_⟩
  refine⟨⟨_,_,_,rfl,rfl,rfl,fun σ' hs=>(Bl rfl (.no rfl) (Ag hs rfl) (.tm (hs.slots _ _ rfl)) A9 rfl rfl)⟩,?_⟩
  refine⟨⟨_,_,_,rfl,rfl,rfl,fun σ' hs=>(by exact Bl rfl (.no rfl) (Ag hs rfl) (.tm (hs.slots _ _ rfl)) Cf rfl rfl)⟩,?_⟩
  trivial
 apply Dh.new0 (i:=9);rfl;rfl;rfl
 · intro w9 _;refine Bq (Cb 3100 (implApplyBatch x b (by omega) (by omega)) U U U (.cons (.tm U) U (.cons (.tm U) U .nil)) U U) U ?_;exact Ak [0,1,2,3,4,5,6,7,10,11,12,13,14,15,16,17,18,19,22,23,24,25,26,27,28,29,30,31] [4,1100,6,3100,3101]
 intros;exact A4
 apply Dh.new0 (i:=13);rfl;rfl;rfl
 · intro w9 _;refine Au (Az 8 U U U Cj U U U) U ?_;exact Ak [0,1,2,3,4,5,6,7,8,10,11,12,13,14,15,16,17,18,19,22,23,24,25,26,27,28,29,30] [4,1100,6,8]
 intros;exact A4
 apply Dh.new0 (i:=10);rfl;rfl;rfl
 · intro w9 _;refine Ac (B7 U (.no U) U U fun _=>rfl) U ?_;exact Ak [0,1,2,3,4,5,6,7,10,11,12,13,14,15,16,17,18,19,21,22,23,24,25,26,27,28,29,30] [4,1100,6,3100,3101]
 intros;exact A4
 apply Dh.new0 (i:=13);rfl;rfl;rfl
 · intro w9 _;refine Au (Az 8 U U U Cj U U U) U ?_;exact Ak [0,1,2,3,4,5,6,7,8,10,11,12,13,14,15,16,17,18,19,22,23,24,25,26,27,28,29,30,31] [4,1100,6,3100,3101,8]
 intros;exact A4
 apply Dh.old0 (i:=9);rfl;rfl;rfl
 · intro w9 _;refine Bq (Cb 3100 (implApplyBatch x b (by omega) (by omega)) U U U (.cons (.tm U) U (.cons (.tm U) U .nil)) U U) U ?_;exact Aa Ay
 apply Dh.new0 (i:=11);rfl;rfl;rfl
 · intro w9 _;refine Ac (Ao U (.no U) U U (fun _=>rfl) U) U ?_;exact Ak [0,1,2,3,4,5,6,7,10,11,12,13,14,15,16,17,18,19,21,22,23,24,25,26,27,28,29,30,32] [4,1100,6,3100,3101]
 intros;exact A4
 apply Dh.new0 (i:=12);rfl;rfl;rfl
 · intro w9 _;refine Ac (Ao U (.no U) U U (fun _=>rfl) U) U ?_;exact Ak [0,1,2,3,4,5,6,7,10,11,12,13,14,15,16,17,18,19,21,22,23,24,25,26,27,28,29,30,33] [4,1100,6,3100,3101]
 intros;exact A4
 apply Dh.new0 (i:=13);rfl;rfl;rfl
 · intro w9 _;refine Au (Az 8 U U U Cj U U U) U ?_;exact Ak [0,1,2,3,4,5,6,7,8,10,11,12,13,14,15,16,17,18,19,21,22,23,24,25,26,27,28,29,30] [4,1100,6,3100,3101,8]
 intros;exact A4
 apply Dh.old0 (i:=10);rfl;rfl;rfl
 · intro w9 _;refine Ac (B7 U (.no U) U U fun _=>rfl) U ?_;exact Aa Ay
 apply Dh.new0 (i:=12);rfl;rfl;rfl
 · intro w9 _;refine Ac (Ao U (.no U) U U (fun _=>rfl) U) U ?_;exact Ak [0,1,2,3,4,5,6,7,10,11,12,13,14,15,16,17,18,19,22,23,24,25,26,27,28,29,30,32,33] [4,1100,6,3100,3101]
 intros;exact A4
 apply Dh.old0 (i:=11);rfl;rfl;rfl
 · intro w9 _;refine Ac (Ao U (.no U) U U (fun _=>rfl) U) U ?_;exact Aa Ay
 apply Dh.new0 (i:=13);rfl;rfl;rfl
 · intro w9 _;refine Au (Az 8 U U U Cj U U U) U ?_;exact Ak [0,1,2,3,4,5,6,7,8,10,11,12,13,14,15,16,17,18,19,21,22,23,24,25,26,27,28,29,30,32] [4,1100,6,3100,3101,8]
 intros;exact A4
 apply Dh.old0 (i:=11);rfl;rfl;rfl
 · intro w9 _;refine Ac (Ao U (.no U) U U (fun _=>rfl) U) U ?_;exact Aa Ay
 apply Dh.new0 (i:=13);rfl;rfl;rfl
 · intro w9 _;refine Au (Az 8 U U U Cj U U U) U ?_;exact Ak [0,1,2,3,4,5,6,7,8,10,11,12,13,14,15,16,17,18,19,21,22,23,24,25,26,27,28,29,30,33] [4,1100,6,3100,3101,8]
 intros;exact A4
 apply Dh.old0 (i:=12);rfl;rfl;rfl
 · intro w9 _;refine Ac (Ao U (.no U) U U (fun _=>rfl) U) U ?_;exact Aa Ay
 apply Dh.new0 (i:=13);rfl;rfl;rfl
 · intro w9 _;refine Au (Az 8 U U U Cj U U U) U ?_;exact Ak [0,1,2,3,4,5,6,7,8,10,11,12,13,14,15,16,17,18,19,22,23,24,25,26,27,28,29,30,32,33] [4,1100,6,3100,3101,8]
 intros;exact A4
 apply Dh.old0 (i:=12);rfl;rfl;rfl
 · intro w9 _;refine Ac (Ao U (.no U) U U (fun _=>rfl) U) U ?_;exact Aa Ay
 apply Dh.old0 (i:=11);rfl;rfl;rfl
 · intro w9 _;refine Ac (Ao U (.no U) U U (fun _=>rfl) U) U ?_;exact Aa Ay
 apply Dh.new0 (i:=14);rfl;rfl;rfl
 · intro w9 _;refine An A9 ?_;exact Ak [0,1,2,3,4,5,6,7,8,10,11,12,13,14,15,16,17,18,19,21,22,23,24,25,26,27,28,29,30] [4,1100,6,3100,3101,8]
 intros;exact A4
 apply Dh.new0 (i:=14);rfl;rfl;rfl
 · intro w9 _;refine An A9 ?_;exact Ak [0,1,2,3,4,5,6,7,8,10,11,12,13,14,15,16,17,18,19,22,23,24,25,26,27,28,29,30,33] [4,1100,6,3100,3101,8]
 intros;exact A4
 apply Dh.old0 (i:=12);rfl;rfl;rfl
 · intro w9 _;refine Ac (Ao U (.no U) U U (fun _=>rfl) U) U ?_;exact Aa Ay
 refine Dh.fin0 (k:=13) rfl ?_;intro  hp
 obtain _:=hp
 refine Ah ?_;refine Aa (Ae (Af (Ab ?_)));refine Cg ?_;refine Aa (Al (.tm U) (fun h35=>?_) (fun h35=>?_))
 · try simp at h35
   refine Af (Ai Be ?_);refine An Be ?_;refine Aj ?_;refine Aa (Ap ?_);apply ERRes.mk (x:=(h,false))
   case h=>
    refine ResR.many U (.cell U U Be U U (.tmp U .nil)) U ?_ (by simp)
    rfl
   case hp=>exact (appH_bad hyes hx (by simpa using h35)).symm
 try simp at h35
 refine Am (Af (A8 Bn ?_));refine Ai Ch ?_;refine Ai A9 ?_;refine Bd (B8 (xs:=[.tmp 39]) 40 U U U (.cons (.tm U) U U .nil) Tryz.underlying24 Cj U U U U) U ?_;refine Cq (Cw U U U (.tm U) U (.tm U) U U Tryz.underlying24 Cj U (by (simp [chunk];omega)) (by (unfold maxLen;simp [chunk];omega))) U ?_;refine A8 Bn ?_;refine An Ch ?_;refine Aa (Ae (Af (A8 Bn ?_)));refine Ai Ch ?_;refine Ac (R_len U (.no U) U (.tm U) (by exact .rf U) Tryz.underlying24) U ?_;refine Db ?_;refine Aa (Al (.tm U) (fun h46=>?_) (fun h46=>?_))
 · try simp at h46
   refine Af (A8 Bn ?_);refine Ai Ch ?_;refine Ac (Dd (n:=1) U (.no U) U (.tm U) U (.yes (.const U) (fun _=>by first|rfl|omega|(simp<;>omega))) .no Tryz.underlying24 A9 (fun _=>⟨by simp [chunk],Nat.le_refl _⟩)) U ?_;refine A8 Bn ?_;refine An Ch ?_;refine Aa (Ad (A8 Dj ?_));refine Ai ty3 ?_;refine Bs ?_;refine A8 Dj ?_;refine An ty3 ?_;refine Aa (Af (Ai Be ?_));refine An Be ?_;refine Aj ?_;refine Aa (Ap ?_);apply ERRes.mk (x:=(⟨h.First+1,(h.Graphs++[(applyB x b).1]).drop 1⟩,true))
   case h=>
    refine ResR.many U (.cell U U Be U U (.tmp U .nil)) U ?_ (by simp);exact congrArg (fun r=>[V0.agg [T.v (.int .i64 (h.First+1)),T.sl 2 r],V0.one (.v (.bool true))]) (by rw [List.take_of_length_le (Nat.le_refl _)];simp [chunk,cGraph,List.map_drop])
   case hp=>exact (appH_gt hyes hx (by simpa using h35) (by simp [chunk] at h46;omega)).symm
 try simp at h46
 refine Am (Af (Ai Be ?_));refine An Be ?_;refine Aj ?_;refine Aa (Ap ?_);apply ERRes.mk (x:=(⟨h.First,h.Graphs++[(applyB x b).1]⟩,true))
 case h=>
  refine ResR.many U (.cell U U Be U U (.tmp U .nil)) U ?_ (by simp);exact congrArg (fun r=>[V0.agg [T.v (.int .i64 h.First),T.sl 2 r],V0.one (.v (.bool true))]) (by simp [chunk,cGraph])
 case hp=>exact (appH_le hyes hx (by simpa using h35) (by simp [chunk] at h46;omega)).symm
end Go.Proofs.YtdhojcaoljhbiaaGreatDoor
