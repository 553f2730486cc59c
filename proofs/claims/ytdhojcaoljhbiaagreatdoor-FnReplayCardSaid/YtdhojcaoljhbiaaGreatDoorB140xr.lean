import Derived.Test.YtdhojcaoljhbiaaGreatDoorB136xr
import Derived.Test.YtdhojcaoljhbiaaGreatDoorB91xr
import Derived.Test.YtdhojcaoljhbiaaGreatDoorB92xr
set_option linter.unusedVariables false
set_option linter.unusedSimpArgs false
set_option maxRecDepth 100000
set_option maxHeartbeats 1000000
set_option maxRecDepth 100000
namespace Go.Q
open Go.RowKit Go.D
end Go.Q
namespace Go.Proofs.YtdhojcaoljhbiaaGreatDoor
open Go.RowKit Go.Q Go.D
theorem specl6Batch (gr:TGraph) (mm:Int) (hg:validG gr=true) (hm:0≤mm∧mm≤7):FnD Tryz.prog 79 [.agg (cGraph gr),.one (.v (.int .i64 mm))] (fun b:TBatch=>b.Changes.length≤7) (fun b=>.a (.agg (cBatch b))):=by
 refine FnD.walk Tryz.func79 U (by kernel_rfl) Tryz.ntmps79 U (fun g=>rfl) fun w0 g=>?_
 have hgz:=validG_z hg
 refine Af (Ac (Bx U U U (.tm U) (ts:=_) (by rfl)) U ?_);refine Au (Az 6 U U U Dk U U U) U ?_;refine Aa (Af (Ac (Bw (ps:=[]) U U U Dk U U st68 .nil U) U ?_));refine Cp (i:=14) 20001 5 0 U U U ?_;refine Au (Az 7 U U U Dk U U U) U ?_;refine An Cf ?_;refine Aa (Af (A3 A9 ?_));refine Bq (Cb 1600 (specl3Copy gr (by omega) (by omega)) U U U (.cons (.tm U) U .nil) U U) U ?_;refine Au (Az 8 U U U Cj U U U) U ?_;refine An A9 ?_;refine Aa (Ae (Af (Ab ?_)));refine Ab ?_;refine Bs ?_;refine Bi (Bj 2000 (specl1Below _) U U U (.tm U) U U (.cons (.tm U) U .nil) (fun _=>rfl) (fun _=>rfl)) ?_
 rintro _ ⟨z20,hz20,rfl⟩
 try dsimp only at hz20
 refine Ah ?_;refine Aa (AW.block ?_);refine AW.loop3 (fun (n:Int) (X:TGraph) (cs:List TChange)=>((n≤7-cs.length∧cs.length≤7)∧validG X=true)∧True) (fun (n:Int) (X:TGraph) (cs:List TChange)=>⟨_,[(9,(true,.a (.one (.t (.v (.int .i64 n)))))),(0,_),(6,_),(7,_),(8,_)],[(6,.box [.t (.v (.slice none 0 0))]),(7,.box [.rf 20001]),(20001,.row 5 (cs.map cChange)),(8,.box [.rf 1600,.rf 1601]),(1600,.row 1 (X.Values.map cInt)),(1601,.row 4 (X.Edges.map cEdge)),(888888,.cur g)]⟩) (fun (n:Int) (X:TGraph) (cs:List TChange)=>n.toNat) (z20) (gr) ([]) ⟨⟨by simp;omega,hg⟩,Y⟩ Ay ?_
 rintro n X cs ⟨hk,he⟩
 refine Ae (Af (Ab ?_));refine Db ?_;refine Aa (Al (.tm U) (fun h22=>?_) (fun h22=>?_))
 · try simp at h22
   refine Am (Ae (AW.block (Af (Ab ?_))));refine Ai A9 ?_;refine Bi (Bj 2700 (specl3Some X) U U U (.tm U) U U (.cons (.tm U) U .nil) (fun _=>rfl) (fun _=>rfl)) ?_
   rintro _ ⟨z27,hz27,rfl⟩
   try dsimp only at hz27
   refine Ac (Bw (ps:=[(0,.const (.bool true)),(1,.tmp 27)]) U U U Cz U U st162 (.cons (.const U) U U fp162_0 (.cons (.tm U) U U fp162_1 .nil)) U) U ?_;refine Au (Az 10 U U U Cz U U U) U ?_;refine An Dc ?_;refine Aa (Ae (Ae (Ar (Av [0,6,7,8,9,10] [6,7,20001,8,1600,1601,888888,10]) ?_)));refine Ad (A8 Ca ?_);refine Ai C6 ?_;refine Bu (.rf U) Tryz.underlying35 ?_;refine Db ?_;refine Ab ?_;refine Da ?_;refine Bi (R_calldq 3500 (specl1Once _) U (by exact .yes1 U U U U) U (.tmp U (by exact id)) U U (.cons (.const U) U .nil) (fun _=>rfl)) ?_
   rintro _ ⟨z35,hz35,rfl⟩
   try dsimp only at hz35
   refine C1 ?_;refine Aa (Al (.tm U) (fun h36=>?_) (fun h36=>?_))
   · try simp at h36
     refine Ar (Av [0,6,7,8,9,10] [6,7,20001,8,1600,1601,888888,10]) ?_;refine Ar (Av [0,6,7,8,9,10] [6,7,20001,8,1600,1601,888888,10]) ?_;apply C3 (N:=7) (k:=1) (Hs:=[0,1,2,3,4,5]) (ms:=[[],[6]]) (es:=[(0,6,1)]) (σ1:=_) (SM:=⟨_,[(0,_),(6,_),(7,_),(8,_),(9,_),(10,_),(37,_),(38,_),(39,_),(40,_),(41,_),(42,_)],[(6,_),(7,_),(20001,_),(8,_),(1600,_),(1601,_),(888888,_),(10,_)]⟩)
     case hm=>kernel_rfl
     case hB=>kernel_rfl
     case hP=>kernel_rfl
     case hL=>kernel_rfl
     case hN=>rfl
     case hpre=>
      apply As (P:=Tryz.prog) 0 rfl ((by exact Bk rfl (.no rfl) rfl (.tm rfl) Ca)) (by exact .pp) rfl rfl rfl;apply As (P:=Tryz.prog) 1 rfl ((by exact Bm rfl (.no rfl) rfl (.tm rfl) rfl C6 rfl rfl)) (by exact HasV.load (x:=.tmp 37) (.tm rfl) rfl C6 rfl rfl) rfl rfl rfl;apply As (P:=Tryz.prog) 2 rfl (Bh rfl (.no rfl) rfl (.tm rfl)) (by exact HasV.slot (t:=0) rfl) rfl rfl rfl;apply As (P:=Tryz.prog) 3 rfl ((by exact Bk rfl (.no rfl) rfl (.tm rfl) Ca)) (by exact .pp) rfl rfl rfl;apply As (P:=Tryz.prog) 4 rfl ((by exact Bm rfl (.no rfl) rfl (.tm rfl) rfl C6 rfl rfl)) (by exact HasV.load (x:=.tmp 40) (.tm rfl) rfl C6 rfl rfl) rfl rfl rfl;apply As (P:=Tryz.prog) 5 rfl ((by exact Cn rfl (.no rfl) rfl (.tm rfl) (by exact .rf rfl) Tryz.underlying35)) (by exact .val rfl) rfl rfl rfl;exact PreOk.nil
     case hS=>exact A4
     case hH=>
      refine LocsH.fq Ca ?_;refine LocsH.lq C6 ?_;refine LocsH.mv ?_;refine LocsH.fq Ca ?_;refine LocsH.lq C6 ?_
      refine⟨⟨_,_,_,rfl,rfl,rfl,fun σ' hs=>(by exact Cn rfl (.no rfl) (Ag hs rfl) (.tm (hs.slots _ _ rfl)) (by exact .rf (hs.res _ _ rfl)) Tryz.underlying35)⟩,?_⟩
      trivial
     apply Dh.drw0 (i:=6)
     case ha=>rfl
     case ho=>rfl
     case hE=>
      intro  hp
      obtain _:=hp
      exact Bj 4300 (specl1Below _) rfl rfl rfl (.tm rfl) rfl rfl (.cons (.tm rfl) rfl .nil) (fun _=>rfl) (fun _=>rfl)
     case hb=>rfl
     case hL=>
      intro  z43 hp hy;exact C7 (Av [0,6,7,8,9,10,37,38,39,40,41,42,43] [6,7,20001,8,1600,1601,888888,10]) U
     case hS=>intros;exact A4
     refine Dh.fin1 (k:=1) rfl ?_;intro z43 hp
     obtain⟨_,hz43⟩:=hp
     refine Ac ((by exact C2 U (.no U) U (.tm U) U (.tm U) Tryz.underlying35 Ba (fun _=>⟨by simp at hz43;omega,A5 (get_dE (i:=z43.toNat) (by simp at hz43;omega))⟩))) U ?_;refine Ac ((by exact R_load_pr U (.no U) U (.tm U) U (by exact A5 (get_dE (by simp at hz43;omega))) Ba U U)) U ?_;refine Ac (Bw (ps:=[(1,.tmp 45)]) U U U Cz U U st162 (.cons (.tm U) U U fp162_1 .nil) U) U ?_;refine An Dc ?_;refine Aa (Ae (Ae (Ar (Av [0,6,7,8,9,10] [6,7,20001,8,1600,1601,888888,10]) ?_)));refine Ad (A8 Bv ?_);refine Ai Ct ?_;refine Bu (.rf U) Tryz.underlying66 ?_;refine Db ?_;refine Ab ?_;refine Da ?_;refine Bi (R_calldq 5300 (specl1Once _) U (by exact .yes1 U U U U) U (.tmp U (by exact id)) U U (.cons (.const U) U .nil) (fun _=>rfl)) ?_
     rintro _ ⟨z53,hz53,rfl⟩
     try dsimp only at hz53
     refine C1 ?_;refine Aa (Al (.tm U) (fun h54=>?_) (fun h54=>?_))
     · try simp at h54
       obtain⟨y,hy⟩:∃ ξ,cs[((cs.length:Int)-1).toNat]?=some ξ:=⟨_,List.getElem?_eq_getElem (by (try simp at h54);omega)⟩
       refine Ae (Ar (Av [0,6,7,8,9,10] [6,7,20001,8,1600,1601,888888,10]) ?_);refine Ad (A8 Bv ?_);refine Ai Ct ?_;refine A8 Bv ?_;refine Ai Ct ?_;refine Bu (.rf U) Tryz.underlying66 ?_;refine Cy ?_;refine Ac (by exact C2 U (.no U) U (.tm U) U (.tm U) Tryz.underlying66 Dc (fun _=>⟨by (try simp at h54);omega,A5 hy⟩)) U ?_;refine Ac (R_load_pr U (.no U) U (.tm U) U (by exact A5 (by assumption)) Dc U U) U ?_;refine Au (Az 11 U U U Cz U U U) U ?_;refine An Dc ?_;refine Aa (Ar (Av [0,6,7,8,9,10,11] [6,7,20001,8,1600,1601,888888,10,11]) ?_);refine Ad (A8 fl162_0 ?_);refine Ai ty4 ?_;refine Cg ?_;refine A8 fl162_1 ?_;refine Ai Ba ?_;refine Ac (Bw (ps:=[(0,.tmp 65),(1,.tmp 67)]) U U U Cz U U st162 (.cons (.tm U) U U fp162_0 (.cons (.tm U) U U fp162_1 .nil)) U) U ?_;refine An Dc ?_;refine Aa (Ae (Ar (Av [0,6,7,8,9,10,11] [6,7,20001,8,1600,1601,888888,10,11]) ?_));refine Ad (Ai A9 ?_)
       refine Ai Dc ?_;refine Bd (B8 (xs:=[.tmp 71]) 72 U U U (.cons (.tm U) U U .nil) Tryz.underlying66 Cz U U U U) U ?_;refine Ac (Bw (ps:=[(0,.tmp 72)]) U U U Dk U U st68 (.cons (.tm U) U U fp68_0 .nil) U) U ?_;refine Bq (Cb 7400 (specl6Apply X ⟨[⟨!y.Insert,y.Edge⟩]⟩ hk.2 (by simp) (by have:=validG_z hk.2;omega) (by have:=validG_z hk.2;omega)) U U U (.cons (.tm U) U (.cons (.tm U) U .nil)) U U) U ?_;refine Ac (B7 U (.no U) U U fun _=>rfl) U ?_;refine Ac (Ao U (.no U) U U (fun _=>rfl) U) U ?_;refine Ac (Ao U (.no U) U U (fun _=>rfl) U) U ?_;refine Au (Az 12 U U U Cj U U U) U ?_;refine An A9 ?_;refine Bf (Av [0,6,7,8,9,10,11,12,76] [6,7,20001,8,1600,1601,888888,10,11,72,7400,7401,12]) ?_;refine Ah ?_;refine Aa (Af (Ab ?_));refine Ab ?_;refine Co ?_;refine Bi (R_calldq 8000 (specl1Once _) U (by exact .not1 U U U U) U (.tmp U (by exact id)) U U (.cons (.const U) U .nil) (fun _=>rfl)) ?_
       rintro _ ⟨z80,hz80,rfl⟩
       try dsimp only at hz80
       refine Ci ?_;refine Aa (Al (.tm U) (fun h81=>?_) (fun h81=>?_))
       · try simp at h81
         refine Ae (Ar (Av [0,6,7,8,9,10,11,12,13] [6,7,20001,8,1600,1601,888888,10,11,72,7400,7401,12]) ?_);refine Ad (A8 Bv ?_);refine Ai Ct ?_;refine Ai Dc ?_;refine Bd (B8 (xs:=[.tmp 84]) 85 U U U (.cons (.tm U) U U .nil) Tryz.underlying66 Cz U U U U) U ?_;refine Ce (Cc U U U (.tm U) U (.tm U) (by exact .rf U) (by rfl) Tryz.underlying66 Cz U (by (simp [chunk];omega)) (by (unfold maxLen;simp [chunk];omega))) U ?_;refine Bf (Av [0,6,7,8,9,10,11,12,13,86] [6,7,20001,8,1600,1601,888888,10,11,72,7400,7401,12,85]) ?_;refine A8 Bv ?_;refine An Ct ?_;refine Aa (Ar (Le.sw 1600 7400 _) ?_);refine Ar (Le.sw 1601 7401 _) ?_;refine Ad (Ai A9 ?_);refine An A9 ?_;refine Aa (Ad (Ab ?_));refine Cy ?_;refine Ah ?_;refine Aa ?_
         repeat (with_reducible refine A7 ?_)
         refine Round3.next (n-1) ((applyB X ⟨[⟨!y.Insert,y.Edge⟩]⟩).1) (cs++[⟨!y.Insert,y.Edge⟩]) ⟨by (try simp at h22);exact⟨by (try simp);omega,by first|exact applyB_ok hk.2|exact hk.2⟩,Y⟩ (by (try simp at h22);omega) (A6 rfl ⟨rfl,rfl,rfl,rfl,rfl,Y⟩ ⟨(by rfl),(by rfl),(by (refine congrArg (fun r=>some (R.row _ r)) ?_;simp [chunk,List.map_set,cInt,cBool,cIntS,cPair,cToken,cExpr,cEdge,cGraph,cStep,cWalk,cChange,cBatch,cHistory,cPositions,cAutomaton,cProductStep,cPathAtom,cConjunction,cView,cDelta,cRegistered,cRegistry])),(by rfl),(by rfl),(by rfl),(by rfl),Y⟩)
       try simp at h81
       refine Am (Ar (Av [0,6,7,8,9,10,11,12,13] [6,7,20001,8,1600,1601,888888,10,11,72,7400,7401,12]) ?_);refine Ad (Ab ?_);refine Cy ?_;refine Ah ?_;refine Aa ?_
       repeat (with_reducible refine A7 ?_)
       refine Round3.next (n-1) (X) (cs) ⟨by (try simp at h22);exact⟨by (try simp);omega,by first|exact applyB_ok hk.2|exact hk.2⟩,Y⟩ (by (try simp at h22);omega) (A6 rfl ⟨rfl,rfl,rfl,rfl,rfl,Y⟩ ⟨(by rfl),(by rfl),(by rfl),(by rfl),(by rfl),(by rfl),(by rfl),Y⟩)
     try simp at h54
     refine Am (Ae (Ar (Av [0,6,7,8,9,10] [6,7,20001,8,1600,1601,888888,10]) ?_));refine Ad (Ai A9 ?_);refine Ai Dc ?_;refine Bd (B8 (xs:=[.tmp 71]) 72 U U U (.cons (.tm U) U U .nil) Tryz.underlying66 Cz U U U U) U ?_;refine Ac (Bw (ps:=[(0,.tmp 72)]) U U U Dk U U st68 (.cons (.tm U) U U fp68_0 .nil) U) U ?_;refine Bq (Cb 7400 (specl6Apply X ⟨[⟨false,X.Edges[z43.toNat]?.getD dE⟩]⟩ hk.2 (by simp) (by have:=validG_z hk.2;omega) (by have:=validG_z hk.2;omega)) U U U (.cons (.tm U) U (.cons (.tm U) U .nil)) U U) U ?_;refine Ac (B7 U (.no U) U U fun _=>rfl) U ?_;refine Ac (Ao U (.no U) U U (fun _=>rfl) U) U ?_;refine Ac (Ao U (.no U) U U (fun _=>rfl) U) U ?_;refine Au (Az 12 U U U Cj U U U) U ?_;refine An A9 ?_;refine Bf (Av [0,6,7,8,9,10,12,76] [6,7,20001,8,1600,1601,888888,10,72,7400,7401,12]) ?_;refine Ah ?_;refine Aa (Af (Ab ?_));refine Ab ?_;refine Co ?_
     refine Bi (R_calldq 8000 (specl1Once _) U (by exact .not1 U U U U) U (.tmp U (by exact id)) U U (.cons (.const U) U .nil) (fun _=>rfl)) ?_
     rintro _ ⟨z80,hz80,rfl⟩
     try dsimp only at hz80
     refine Ci ?_;refine Aa (Al (.tm U) (fun h81=>?_) (fun h81=>?_))
     · try simp at h81
       refine Ae (Ar (Av [0,6,7,8,9,10,12,13] [6,7,20001,8,1600,1601,888888,10,72,7400,7401,12]) ?_);refine Ad (A8 Bv ?_);refine Ai Ct ?_;refine Ai Dc ?_;refine Bd (B8 (xs:=[.tmp 84]) 85 U U U (.cons (.tm U) U U .nil) Tryz.underlying66 Cz U U U U) U ?_;refine Ce (Cc U U U (.tm U) U (.tm U) (by exact .rf U) (by rfl) Tryz.underlying66 Cz U (by (simp [chunk];omega)) (by (unfold maxLen;simp [chunk];omega))) U ?_;refine Bf (Av [0,6,7,8,9,10,12,13,86] [6,7,20001,8,1600,1601,888888,10,72,7400,7401,12,85]) ?_;refine A8 Bv ?_;refine An Ct ?_;refine Aa (Ar (Le.sw 1600 7400 _) ?_);refine Ar (Le.sw 1601 7401 _) ?_;refine Ad (Ai A9 ?_);refine An A9 ?_;refine Aa (Ad (Ab ?_));refine Cy ?_;refine Ah ?_;refine Aa ?_
       repeat (with_reducible refine A7 ?_)
       refine Round3.next (n-1) ((applyB X ⟨[⟨false,X.Edges[z43.toNat]?.getD dE⟩]⟩).1) (cs++[⟨false,X.Edges[z43.toNat]?.getD dE⟩]) ⟨by (try simp at h22);exact⟨by (try simp);omega,by first|exact applyB_ok hk.2|exact hk.2⟩,Y⟩ (by (try simp at h22);omega) (A6 rfl ⟨rfl,rfl,rfl,rfl,rfl,Y⟩ ⟨(by rfl),(by rfl),(by (refine congrArg (fun r=>some (R.row _ r)) ?_;simp [chunk,List.map_set,cInt,cBool,cIntS,cPair,cToken,cExpr,cEdge,cGraph,cStep,cWalk,cChange,cBatch,cHistory,cPositions,cAutomaton,cProductStep,cPathAtom,cConjunction,cView,cDelta,cRegistered,cRegistry])),(by rfl),(by rfl),(by rfl),(by rfl),Y⟩)
     try simp at h81
     refine Am (Ar (Av [0,6,7,8,9,10,12,13] [6,7,20001,8,1600,1601,888888,10,72,7400,7401,12]) ?_);refine Ad (Ab ?_);refine Cy ?_;refine Ah ?_;refine Aa ?_
     repeat (with_reducible refine A7 ?_)
     refine Round3.next (n-1) (X) (cs) ⟨by (try simp at h22);exact⟨by (try simp);omega,by first|exact applyB_ok hk.2|exact hk.2⟩,Y⟩ (by (try simp at h22);omega) (A6 rfl ⟨rfl,rfl,rfl,rfl,rfl,Y⟩ ⟨(by rfl),(by rfl),(by rfl),(by rfl),(by rfl),(by rfl),(by rfl),Y⟩)
   try simp at h36
   refine Am (Ae (Ae (Ar (Av [0,6,7,8,9,10] [6,7,20001,8,1600,1601,888888,10]) ?_)));refine Ad (A8 Bv ?_);refine Ai Ct ?_;refine Bu (.rf U) Tryz.underlying66 ?_;refine Db ?_;refine Ab ?_;refine Da ?_;refine Bi (R_calldq 5300 (specl1Once _) U (by exact .yes1 U U U U) U (.tmp U (by exact id)) U U (.cons (.const U) U .nil) (fun _=>rfl)) ?_
   rintro _ ⟨z53,hz53,rfl⟩
   try dsimp only at hz53
   refine C1 ?_;refine Aa (Al (.tm U) (fun h54=>?_) (fun h54=>?_))
   · try simp at h54
     obtain⟨y,hy⟩:∃ ξ,cs[((cs.length:Int)-1).toNat]?=some ξ:=⟨_,List.getElem?_eq_getElem (by (try simp at h54);omega)⟩
     refine Ae (Ar (Av [0,6,7,8,9,10] [6,7,20001,8,1600,1601,888888,10]) ?_);refine Ad (A8 Bv ?_);refine Ai Ct ?_;refine A8 Bv ?_;refine Ai Ct ?_;refine Bu (.rf U) Tryz.underlying66 ?_;refine Cy ?_;refine Ac (by exact C2 U (.no U) U (.tm U) U (.tm U) Tryz.underlying66 Dc (fun _=>⟨by (try simp at h54);omega,A5 hy⟩)) U ?_;refine Ac (R_load_pr U (.no U) U (.tm U) U (by exact A5 (by assumption)) Dc U U) U ?_;refine Au (Az 11 U U U Cz U U U) U ?_;refine An Dc ?_;refine Aa (Ar (Av [0,6,7,8,9,10,11] [6,7,20001,8,1600,1601,888888,10,11]) ?_);refine Ad (A8 fl162_0 ?_);refine Ai ty4 ?_;refine Cg ?_;refine A8 fl162_1 ?_;refine Ai Ba ?_;refine Ac (Bw (ps:=[(0,.tmp 65),(1,.tmp 67)]) U U U Cz U U st162 (.cons (.tm U) U U fp162_0 (.cons (.tm U) U U fp162_1 .nil)) U) U ?_;refine An Dc ?_;refine Aa (Ae (Ar (Av [0,6,7,8,9,10,11] [6,7,20001,8,1600,1601,888888,10,11]) ?_));refine Ad (Ai A9 ?_)
     refine Ai Dc ?_;refine Bd (B8 (xs:=[.tmp 71]) 72 U U U (.cons (.tm U) U U .nil) Tryz.underlying66 Cz U U U U) U ?_;refine Ac (Bw (ps:=[(0,.tmp 72)]) U U U Dk U U st68 (.cons (.tm U) U U fp68_0 .nil) U) U ?_;refine Bq (Cb 7400 (specl6Apply X ⟨[⟨!y.Insert,y.Edge⟩]⟩ hk.2 (by simp) (by have:=validG_z hk.2;omega) (by have:=validG_z hk.2;omega)) U U U (.cons (.tm U) U (.cons (.tm U) U .nil)) U U) U ?_;refine Ac (B7 U (.no U) U U fun _=>rfl) U ?_;refine Ac (Ao U (.no U) U U (fun _=>rfl) U) U ?_;refine Ac (Ao U (.no U) U U (fun _=>rfl) U) U ?_;refine Au (Az 12 U U U Cj U U U) U ?_;refine An A9 ?_;refine Bf (Av [0,6,7,8,9,10,11,12,76] [6,7,20001,8,1600,1601,888888,10,11,72,7400,7401,12]) ?_;refine Ah ?_;refine Aa (Af (Ab ?_));refine Ab ?_;refine Co ?_;refine Bi (R_calldq 8000 (specl1Once _) U (by exact .not1 U U U U) U (.tmp U (by exact id)) U U (.cons (.const U) U .nil) (fun _=>rfl)) ?_
     rintro _ ⟨z80,hz80,rfl⟩
     try dsimp only at hz80
     refine Ci ?_;refine Aa (Al (.tm U) (fun h81=>?_) (fun h81=>?_))
     · try simp at h81
       refine Ae (Ar (Av [0,6,7,8,9,10,11,12,13] [6,7,20001,8,1600,1601,888888,10,11,72,7400,7401,12]) ?_);refine Ad (A8 Bv ?_);refine Ai Ct ?_;refine Ai Dc ?_;refine Bd (B8 (xs:=[.tmp 84]) 85 U U U (.cons (.tm U) U U .nil) Tryz.underlying66 Cz U U U U) U ?_;refine Ce (Cc U U U (.tm U) U (.tm U) (by exact .rf U) (by rfl) Tryz.underlying66 Cz U (by (simp [chunk];omega)) (by (unfold maxLen;simp [chunk];omega))) U ?_;refine Bf (Av [0,6,7,8,9,10,11,12,13,86] [6,7,20001,8,1600,1601,888888,10,11,72,7400,7401,12,85]) ?_;refine A8 Bv ?_;refine An Ct ?_;refine Aa (Ar (Le.sw 1600 7400 _) ?_);refine Ar (Le.sw 1601 7401 _) ?_;refine Ad (Ai A9 ?_);refine An A9 ?_;refine Aa (Ad (Ab ?_));refine Cy ?_;refine Ah ?_;refine Aa ?_
       repeat (with_reducible refine A7 ?_)
       refine Round3.next (n-1) ((applyB X ⟨[⟨!y.Insert,y.Edge⟩]⟩).1) (cs++[⟨!y.Insert,y.Edge⟩]) ⟨by (try simp at h22);exact⟨by (try simp);omega,by first|exact applyB_ok hk.2|exact hk.2⟩,Y⟩ (by (try simp at h22);omega) (A6 rfl ⟨rfl,rfl,rfl,rfl,rfl,Y⟩ ⟨(by rfl),(by rfl),(by (refine congrArg (fun r=>some (R.row _ r)) ?_;simp [chunk,List.map_set,cInt,cBool,cIntS,cPair,cToken,cExpr,cEdge,cGraph,cStep,cWalk,cChange,cBatch,cHistory,cPositions,cAutomaton,cProductStep,cPathAtom,cConjunction,cView,cDelta,cRegistered,cRegistry])),(by rfl),(by rfl),(by rfl),(by rfl),Y⟩)
     try simp at h81
     refine Am (Ar (Av [0,6,7,8,9,10,11,12,13] [6,7,20001,8,1600,1601,888888,10,11,72,7400,7401,12]) ?_);refine Ad (Ab ?_);refine Cy ?_;refine Ah ?_;refine Aa ?_
     repeat (with_reducible refine A7 ?_)
     refine Round3.next (n-1) (X) (cs) ⟨by (try simp at h22);exact⟨by (try simp);omega,by first|exact applyB_ok hk.2|exact hk.2⟩,Y⟩ (by (try simp at h22);omega) (A6 rfl ⟨rfl,rfl,rfl,rfl,rfl,Y⟩ ⟨(by rfl),(by rfl),(by rfl),(by rfl),(by rfl),(by rfl),(by rfl),Y⟩)
   try simp at h54
   refine Am (Ae (Ar (Av [0,6,7,8,9,10] [6,7,20001,8,1600,1601,888888,10]) ?_));refine Ad (Ai A9 ?_);refine Ai Dc ?_;refine Bd (B8 (xs:=[.tmp 71]) 72 U U U (.cons (.tm U) U U .nil) Tryz.underlying66 Cz U U U U) U ?_;refine Ac (Bw (ps:=[(0,.tmp 72)]) U U U Dk U U st68 (.cons (.tm U) U U fp68_0 .nil) U) U ?_;refine Bq (Cb 7400 (specl6Apply X ⟨[⟨true,z27⟩]⟩ hk.2 (by simp) (by have:=validG_z hk.2;omega) (by have:=validG_z hk.2;omega)) U U U (.cons (.tm U) U (.cons (.tm U) U .nil)) U U) U ?_;refine Ac (B7 U (.no U) U U fun _=>rfl) U ?_;refine Ac (Ao U (.no U) U U (fun _=>rfl) U) U ?_;refine Ac (Ao U (.no U) U U (fun _=>rfl) U) U ?_;refine Au (Az 12 U U U Cj U U U) U ?_;refine An A9 ?_;refine Bf (Av [0,6,7,8,9,10,12,76] [6,7,20001,8,1600,1601,888888,10,72,7400,7401,12]) ?_;refine Ah ?_;refine Aa (Af (Ab ?_));refine Ab ?_;refine Co ?_
   refine Bi (R_calldq 8000 (specl1Once _) U (by exact .not1 U U U U) U (.tmp U (by exact id)) U U (.cons (.const U) U .nil) (fun _=>rfl)) ?_
   rintro _ ⟨z80,hz80,rfl⟩
   try dsimp only at hz80
   refine Ci ?_;refine Aa (Al (.tm U) (fun h81=>?_) (fun h81=>?_))
   · try simp at h81
     refine Ae (Ar (Av [0,6,7,8,9,10,12,13] [6,7,20001,8,1600,1601,888888,10,72,7400,7401,12]) ?_);refine Ad (A8 Bv ?_);refine Ai Ct ?_;refine Ai Dc ?_;refine Bd (B8 (xs:=[.tmp 84]) 85 U U U (.cons (.tm U) U U .nil) Tryz.underlying66 Cz U U U U) U ?_;refine Ce (Cc U U U (.tm U) U (.tm U) (by exact .rf U) (by rfl) Tryz.underlying66 Cz U (by (simp [chunk];omega)) (by (unfold maxLen;simp [chunk];omega))) U ?_;refine Bf (Av [0,6,7,8,9,10,12,13,86] [6,7,20001,8,1600,1601,888888,10,72,7400,7401,12,85]) ?_;refine A8 Bv ?_;refine An Ct ?_;refine Aa (Ar (Le.sw 1600 7400 _) ?_);refine Ar (Le.sw 1601 7401 _) ?_;refine Ad (Ai A9 ?_);refine An A9 ?_;refine Aa (Ad (Ab ?_));refine Cy ?_;refine Ah ?_;refine Aa ?_
     repeat (with_reducible refine A7 ?_)
     refine Round3.next (n-1) ((applyB X ⟨[⟨true,z27⟩]⟩).1) (cs++[⟨true,z27⟩]) ⟨by (try simp at h22);exact⟨by (try simp);omega,by first|exact applyB_ok hk.2|exact hk.2⟩,Y⟩ (by (try simp at h22);omega) (A6 rfl ⟨rfl,rfl,rfl,rfl,rfl,Y⟩ ⟨(by rfl),(by rfl),(by (refine congrArg (fun r=>some (R.row _ r)) ?_;simp [chunk,List.map_set,cInt,cBool,cIntS,cPair,cToken,cExpr,cEdge,cGraph,cStep,cWalk,cChange,cBatch,cHistory,cPositions,cAutomaton,cProductStep,cPathAtom,cConjunction,cView,cDelta,cRegistered,cRegistry])),(by rfl),(by rfl),(by rfl),(by rfl),Y⟩)
   try simp at h81
   refine Am (Ar (Av [0,6,7,8,9,10,12,13] [6,7,20001,8,1600,1601,888888,10,72,7400,7401,12]) ?_);refine Ad (Ab ?_);refine Cy ?_;refine Ah ?_;refine Aa ?_
   repeat (with_reducible refine A7 ?_)
   refine Round3.next (n-1) (X) (cs) ⟨by (try simp at h22);exact⟨by (try simp);omega,by first|exact applyB_ok hk.2|exact hk.2⟩,Y⟩ (by (try simp at h22);omega) (A6 rfl ⟨rfl,rfl,rfl,rfl,rfl,Y⟩ ⟨(by rfl),(by rfl),(by rfl),(by rfl),(by rfl),(by rfl),(by rfl),Y⟩)
 try simp at h22
 refine Bt (Af (Ai Cf ?_));refine An Cf ?_;refine Aa (Ap ?_);apply DRes.mk (x:=⟨cs⟩) rfl
 case h=>
  refine Res.one U (.cell U U Cf U U .nil) U ?_
  rfl
 case hp=>exact hk.1.2
end Go.Proofs.YtdhojcaoljhbiaaGreatDoor
set_option maxHeartbeats 1000000
set_option maxRecDepth 100000
namespace Go.Q
open Go.RowKit Go.D
end Go.Q
namespace Go.Proofs.YtdhojcaoljhbiaaGreatDoor
open Go.RowKit Go.Q Go.D
theorem specl1Spoil (s:ByteArray) (hs:s.size≤1000000):FnD Tryz.prog 81 [.one (.v (.string s))] (fun t:ByteArray=>t.size≤s.size+3) (fun t=>.a (.one (.v (.string t)))):=by
 refine FnD.walk Tryz.func81 U (by kernel_rfl) Tryz.ntmps81 U (fun g=>rfl) fun w0 g=>?_
 refine Af (Aj ?_);refine Aa (Ae (Af (Ab ?_)));refine Ac (C4 U (.no U) U (.tm U) Tryz.underlying9) U ?_;refine Ck ?_;refine Aa (Al (.tm U) (fun h8=>?_) (fun h8=>?_))
 · try simp at h8
   refine Af (Ab ?_);refine Bi (Bj 1000 (specl1Text 3 (by omega)) U U U (.tm U) U U (.cons (.const U) U .nil) (fun _=>rfl) (fun _=>rfl)) ?_
   rintro _ ⟨z10,hz10,rfl⟩
   try dsimp only at hz10
   refine Ah ?_;refine Aa (Ap ?_);apply DRes.mk rfl
   case h=>
    refine Res.one U (.tmp U .nil) U ?_
    rfl
   case hp=>exact (by omega)
 try simp at h8
 have h8b:0<s.size:=Nat.pos_of_ne_zero fun e=>h8 (by exact ByteArray.size_eq_zero_iff.1 e)
 refine Am (Af (Ab ?_));refine Ab ?_;refine Ac (C4 U (.no U) U (.tm U) Tryz.underlying9) U ?_;refine Bi (Bj 1400 (specl1Below _) U U U (.tm U) U U (.cons (.tm U) U .nil) (fun _=>rfl) (fun _=>rfl)) ?_
 rintro _ ⟨z14,hz14,rfl⟩
 try dsimp only at hz14
 refine Ah ?_;refine Aa (Ae (Ae (Ar (Av [0,1,4,5] [888888]) ?_)));refine Ad (Ab ?_);refine Bi (Bj 1600 (specl1Below _) U U U (.tm U) U U (.cons (.const U) U .nil) (fun _=>rfl) (fun _=>rfl)) ?_
 rintro _ ⟨z16,hz16,rfl⟩
 try dsimp only at hz16
 refine Aa (AW.block (Af (Ck ?_)));refine Ah ?_;refine Aa (Al (.tm U) (fun h17=>?_) (fun h17=>?_))
 · try simp at h17
   have hb:0≤z14∧z14<(s.size:Int):=by ((try simp at hz14);omega)
   refine Ae (Cv 9 (nthB [[],[],[0,1],[],[],[4],[3,4,5],[0,1,2,3,4,5,6],[0,1,2,3,4,5,6,7]]) (by kernel_rfl) (by kernel_rfl) (by kernel_rfl) ?_);refine Bp ?_;refine Bp ?_;refine DrawC.s (fun _ hs=>Cl (m:=z14.toNat) U (.no U) (Ag hs U) (hs.tm U) .no (.yes (hs.tm U) (fun _=>by first|omega|(simp<;>omega))) Tryz.underlying9 (fun _=>⟨by omega,by first|omega|(simp;omega)⟩)) ?_;refine Bp ?_;refine Bp ?_;refine DrawC.s (fun _ hs=>C5 U (.no U) (Ag hs U) (hs.tm U) (.const U) (fun _=>by omega)) ?_;refine DrawC.s (fun _ hs=>Cl (n:=z14.toNat+1) U (.no U) (Ag hs U) (hs.tm U) (.yes (hs.tm U) (fun _=>by first|omega|(simp<;>omega))) .no Tryz.underlying9 (fun _=>⟨by omega,by first|omega|(simp;omega)⟩)) ?_;refine DrawC.s (fun _ hs=>Cr U (.no U) (Ag hs U) (hs.tm U) (hs.tm U) (fun _=>by simp only [ByteArray.size_append,ByteArray.size_extract,strOfNums_size,List.length_cons,List.length_nil];omega)) ?_
   refine DrawC.s (fun _ hs=>R_assign U (.no U) (Ag hs U) (hs.tm U)) ?_;refine Cm U U ?_;refine Aa (Ap ?_);apply DRes.mk rfl
   case h=>
    refine Res.one U (.tmp U .nil) U ?_
    rfl
   case hp=>exact (by simp only [ByteArray.size_append,ByteArray.size_extract,strOfNums_size,List.length_cons,List.length_nil];omega)
 try simp at h17
 have hb:0≤z14∧z14<(s.size:Int):=by ((try simp at hz14);omega)
 refine Af (Ck ?_);refine Ah ?_;refine Aa (Al (.tm U) (fun h27=>?_) (fun h27=>?_))
 · try simp at h27
   refine Ae (AW.drawnZ 14 888888 (nthB [[],[],[0,1],[],[3],[3,4],[3,4,5],[3,4,5,6],[0,1,2,3,4,5,6,7],[],[],[9,10],[0,1,2,3,4,5,6,7,8,9,10,11],[0,1,2,3,4,5,6,7,8,9,10,11,12]]) (by kernel_rfl) (by kernel_rfl) (by kernel_rfl) U ?_);refine DrawZ.pure U U U (fun ζ8 hp=>by exact B9 U fun σ' hs=>Bh U (.no U) (Ag hs U) (hs.tm U)) (fun _=>rfl) (fun _ _ _=>rfl) ?_;refine DrawZ.pure U U U (fun ζ8 hp=>by exact B9 U fun σ' hs=>Bh U (.no U) (Ag hs U) (hs.tm U)) (fun _=>rfl) (fun _ _ _=>rfl) ?_;refine DrawZ.pure U U U (fun ζ8 hp=>by exact B9 U fun σ' hs=>Cl (m:=z14.toNat) U (.no U) (Ag hs U) (hs.tm U) .no (.yes (hs.tm U) (fun _=>by first|omega|(simp<;>omega))) Tryz.underlying9 (fun _=>⟨by omega,by first|omega|(simp;omega)⟩)) (fun _=>rfl) (fun _ _ _=>rfl) ?_;refine DrawZ.pure U U U (fun ζ8 hp=>by exact B9 U fun σ' hs=>Bh U (.no U) (Ag hs U) (hs.tm U)) (fun _=>rfl) (fun _ _ _=>rfl) ?_
   refine DrawZ.draw U U U (fun ζ8 hp σ' hs hv=>by exact Bj 3300 (specl1Byte) U U (Ag hs U) (hs.tm U) (hs.res _ _ U) hv .nil (fun _=>rfl) (fun _=>rfl)) (fun _ _ _ _ hq=>hq) ?_;refine DrawZ.pure U U U (fun ζ8 hp=>by obtain⟨⟨_,_⟩,hz33⟩:=hp;(try dsimp only at hz33);exact B9 U fun σ' hs=>De U (.no U) (Ag hs U) (hs.tm U) (by rw [Tryz.underlying3];rfl) Tryz.underlying5 (fun _=>rfl)) (fun _=>rfl) (by intro ζ ζ' h;first|rfl|(simp only [h 4 U])) ?_;refine DrawZ.pure U U U (fun ζ8 hp=>by obtain⟨⟨⟨_,_⟩,hz33⟩,_⟩:=hp;(try dsimp only at hz33);exact Loc.of1 U fun σ' hs hf=>B8 (xs:=[.tmp 34]) 35 U U (Ag hs U) (.cons (hs.tm U) U U .nil) Tryz.underlying22 in5 U U U hf) (fun _=>rfl) (by intro ζ ζ' h;first|rfl|(simp only [h 4 U])) ?_
   refine DrawZ.pure U U U (fun ζ8 hp=>by obtain⟨⟨⟨⟨_,_⟩,hz33⟩,_⟩,_⟩:=hp;(try dsimp only at hz33);exact B9 U fun σ' hs=>R_rowStr1 U (.no U) (Ag hs U) (hs.tm U) (hs.res _ _ U) Tryz.underlying22 Tryz.underlying5 Tryz.underlying9) (fun _=>rfl) (by intro ζ ζ' h;first|rfl|(simp only [h 4 U])) ?_;refine DrawZ.pure U U U (fun ζ8 hp=>by obtain⟨⟨⟨⟨⟨⟨⟨⟨_,_⟩,_⟩,_⟩,_⟩,hz33⟩,_⟩,_⟩,_⟩:=hp;(try dsimp only at hz33);exact B9 U fun σ' hs=>Cr U (.no U) (Ag hs U) (hs.tm U) (hs.tm U) (fun _=>by simp only [ByteArray.size_append,ByteArray.size_extract,strOfNums_size,List.length_cons,List.length_nil];omega)) (fun _=>rfl) (by intro ζ ζ' h;first|rfl|(simp only [h 4 U])) ?_;refine DrawZ.pure U U U (fun ζ8 hp=>by exact B9 U fun σ' hs=>Bh U (.no U) (Ag hs U) (hs.tm U)) (fun _=>rfl) (fun _ _ _=>rfl) ?_
   refine DrawZ.pure U U U (fun ζ8 hp=>by exact B9 U fun σ' hs=>Bh U (.no U) (Ag hs U) (hs.tm U)) (fun _=>rfl) (fun _ _ _=>rfl) ?_;refine DrawZ.pure U U U (fun ζ8 hp=>by exact B9 U fun σ' hs=>Cl (n:=z14.toNat) U (.no U) (Ag hs U) (hs.tm U) (.yes (hs.tm U) (fun _=>by first|omega|(simp<;>omega))) .no Tryz.underlying9 (fun _=>⟨by omega,by first|omega|(simp;omega)⟩)) (fun _=>rfl) (fun _ _ _=>rfl) ?_;refine DrawZ.pure U U U (fun ζ8 hp=>by obtain⟨⟨⟨⟨⟨⟨⟨⟨⟨⟨⟨⟨_,_⟩,_⟩,_⟩,_⟩,hz33⟩,_⟩,_⟩,_⟩,_⟩,_⟩,_⟩,_⟩:=hp;(try dsimp only at hz33);exact B9 U fun σ' hs=>Cr U (.no U) (Ag hs U) (hs.tm U) (hs.tm U) (fun _=>by simp only [ByteArray.size_append,ByteArray.size_extract,strOfNums_size,List.length_cons,List.length_nil];omega)) (fun _=>rfl) (by intro ζ ζ' h;first|rfl|(simp only [h 4 U])) ?_
   refine DrawZ.pure U U U (fun ζ8 hp=>by obtain⟨⟨⟨⟨⟨⟨⟨⟨⟨⟨⟨⟨⟨_,_⟩,_⟩,_⟩,_⟩,hz33⟩,_⟩,_⟩,_⟩,_⟩,_⟩,_⟩,_⟩,_⟩:=hp;(try dsimp only at hz33);exact B9 U fun σ' hs=>R_assign U (.no U) (Ag hs U) (hs.tm U)) (fun _=>rfl) (by intro ζ ζ' h;first|rfl|(simp only [h 4 U])) ?_;refine DrawZ.fin U (fun _=>rfl) (fun _=>rfl) ?_;intro ζ8 hp
   obtain⟨⟨⟨⟨⟨⟨⟨⟨⟨⟨⟨⟨⟨⟨_,_⟩,_⟩,_⟩,_⟩,hz33⟩,_⟩,_⟩,_⟩,_⟩,_⟩,_⟩,_⟩,_⟩,_⟩:=hp
   try dsimp only at hz33
   dsimp only [finSl,finRs,addsR,List.map_cons,List.map_nil]
   refine Aa (Ap ?_);apply DRes.mk rfl
   case h=>
    refine Res.one U (.tmp U .nil) U ?_
    rfl
   case hp=>exact (by simp only [ByteArray.size_append,ByteArray.size_extract,strOfNums_size,List.length_cons,List.length_nil];omega)
 try simp at h27
 refine Af (Ck ?_);refine Ah ?_;refine Aa (Al (.tm U) (fun h42=>?_) (fun h42=>?_))
 · try simp at h42
   refine Ae (Ar (Av [0,1,4,5,16] [888888]) ?_);refine Ad (Ab ?_);refine Ab ?_;refine Ac (Cl (m:=z14.toNat) U (.no U) U (.tm U) .no (.yes (.tm U) (fun _=>by first|omega|(simp<;>omega))) Tryz.underlying9 (fun _=>⟨by omega,by first|omega|(simp;omega)⟩)) U ?_;refine Ah ?_;refine Aa (Ap ?_);apply DRes.mk rfl
   case h=>
    refine Res.one U (.tmp U .nil) U ?_
    rfl
   case hp=>exact (by simp only [ByteArray.size_append,ByteArray.size_extract,strOfNums_size,List.length_cons,List.length_nil];omega)
 try simp at h42
 refine Am (Ae (Ar (Av [0,1,4,5,16] [888888]) ?_));refine AW.drawnZ 21 888888 (nthB [[],[],[0,1],[],[],[3,4],[3,4,5],[],[7],[7,8],[3,4,5,6,7,8,9],[3,4,5,6,7,8,9,10],[3,4,5,6,7,8,9,10,11],[3,4,5,6,7,8,9,10,11,12],[0,1,2,3,4,5,6,7,8,9,10,11,12,13],[],[],[16],[15,16,17],[0,1,2,3,4,5,6,7,8,9,10,11,12,13,14,15,16,17,18],[0,1,2,3,4,5,6,7,8,9,10,11,12,13,14,15,16,17,18,19]]) (by kernel_rfl) (by kernel_rfl) (by kernel_rfl) U ?_;refine DrawZ.pure U U U (fun ζ11 hp=>by exact B9 U fun σ' hs=>Bh U (.no U) (Ag hs U) (hs.tm U)) (fun _=>rfl) (fun _ _ _=>rfl) ?_;refine DrawZ.pure U U U (fun ζ11 hp=>by exact B9 U fun σ' hs=>Bh U (.no U) (Ag hs U) (hs.tm U)) (fun _=>rfl) (fun _ _ _=>rfl) ?_
 refine DrawZ.pure U U U (fun ζ11 hp=>by exact B9 U fun σ' hs=>Cl (m:=z14.toNat) U (.no U) (Ag hs U) (hs.tm U) .no (.yes (hs.tm U) (fun _=>by first|omega|(simp<;>omega))) Tryz.underlying9 (fun _=>⟨by omega,by first|omega|(simp;omega)⟩)) (fun _=>rfl) (fun _ _ _=>rfl) ?_;refine DrawZ.pure U U U (fun ζ11 hp=>by exact B9 U fun σ' hs=>Bh U (.no U) (Ag hs U) (hs.tm U)) (fun _=>rfl) (fun _ _ _=>rfl) ?_;refine DrawZ.pure U U U (fun ζ11 hp=>by exact B9 U fun σ' hs=>Bh U (.no U) (Ag hs U) (hs.tm U)) (fun _=>rfl) (fun _ _ _=>rfl) ?_;refine DrawZ.pure U U U (fun ζ11 hp=>by exact B9 U fun σ' hs=>B6 U (.no U) (Ag hs U) (hs.tm U) (hs.tm U) Tryz.underlying9 (fun _=>⟨hb.1,bget hb⟩)) (fun _=>rfl) (fun _ _ _=>rfl) ?_
 refine DrawZ.pure U U U (fun ζ11 hp=>by exact B9 U fun σ' hs=>De U (.no U) (Ag hs U) (hs.tm U) (by rw [Tryz.underlying5];rfl) Tryz.underlying3 (fun _=>rfl)) (fun _=>rfl) (fun _ _ _=>rfl) ?_;refine DrawZ.pure U U U (fun ζ11 hp=>by exact B9 U fun σ' hs=>Bh U (.no U) (Ag hs U) (hs.tm U)) (fun _=>rfl) (fun _ _ _=>rfl) ?_;refine DrawZ.draw U U U (fun ζ11 hp σ' hs hv=>by exact Bj 5500 (specl1Below _) U U (Ag hs U) (hs.tm U) (hs.res _ _ U) hv (.cons (.const U) (readDA_sup hs U) .nil) (fun _=>rfl) (fun _=>rfl)) (fun _ _ _ _ hq=>hq) ?_;refine DrawZ.pure U U U (fun ζ11 hp=>by obtain⟨⟨_,_⟩,hz55⟩:=hp;(try dsimp only at hz55);exact B9 U fun σ' hs=>C5 U (.no U) (Ag hs U) (.const U) (hs.tm U) (fun _=>by omega)) (fun _=>rfl) (by intro ζ ζ' h;first|rfl|(simp only [h 8 U])) ?_
 refine DrawZ.pure U U U (fun ζ11 hp=>by obtain⟨⟨⟨⟨⟨⟨⟨_,_⟩,_⟩,_⟩,_⟩,_⟩,hz55⟩,_⟩:=hp;(try dsimp only at hz55);exact B9 U fun σ' hs=>R_xor U (.no U) (Ag hs U) (hs.tm U) (hs.tm U)) (fun _=>rfl) (by intro ζ ζ' h;first|rfl|(simp only [h 8 U])) ?_;refine DrawZ.pure U U U (fun ζ11 hp=>by obtain⟨⟨⟨⟨⟨⟨⟨⟨_,_⟩,_⟩,_⟩,_⟩,_⟩,hz55⟩,_⟩,_⟩:=hp;(try dsimp only at hz55);exact B9 U fun σ' hs=>De U (.no U) (Ag hs U) (hs.tm U) (by rw [Tryz.underlying3];rfl) Tryz.underlying5 (fun _=>rfl)) (fun _=>rfl) (by intro ζ ζ' h;first|rfl|(simp only [h 8 U])) ?_;refine DrawZ.pure U U U (fun ζ11 hp=>by obtain⟨⟨⟨⟨⟨⟨⟨⟨⟨_,_⟩,_⟩,_⟩,_⟩,_⟩,hz55⟩,_⟩,_⟩,_⟩:=hp;(try dsimp only at hz55);exact Loc.of1 U fun σ' hs hf=>B8 (xs:=[.tmp 58]) 59 U U (Ag hs U) (.cons (hs.tm U) U U .nil) Tryz.underlying22 in5 U U U hf) (fun _=>rfl) (by intro ζ ζ' h;first|rfl|(simp only [h 8 U])) ?_
 refine DrawZ.pure U U U (fun ζ11 hp=>by obtain⟨⟨⟨⟨⟨⟨⟨⟨⟨⟨_,_⟩,_⟩,_⟩,_⟩,_⟩,hz55⟩,_⟩,_⟩,_⟩,_⟩:=hp;(try dsimp only at hz55);exact B9 U fun σ' hs=>R_rowStr1 U (.no U) (Ag hs U) (hs.tm U) (hs.res _ _ U) Tryz.underlying22 Tryz.underlying5 Tryz.underlying9) (fun _=>rfl) (by intro ζ ζ' h;first|rfl|(simp only [h 8 U])) ?_;refine DrawZ.pure U U U (fun ζ11 hp=>by obtain⟨⟨⟨⟨⟨⟨⟨⟨⟨⟨⟨⟨⟨⟨_,_⟩,_⟩,_⟩,_⟩,_⟩,_⟩,_⟩,_⟩,hz55⟩,_⟩,_⟩,_⟩,_⟩,_⟩:=hp;(try dsimp only at hz55);exact B9 U fun σ' hs=>Cr U (.no U) (Ag hs U) (hs.tm U) (hs.tm U) (fun _=>by simp only [ByteArray.size_append,ByteArray.size_extract,strOfNums_size,List.length_cons,List.length_nil];omega)) (fun _=>rfl) (by intro ζ ζ' h;first|rfl|(simp only [h 8 U])) ?_;refine DrawZ.pure U U U (fun ζ11 hp=>by exact B9 U fun σ' hs=>Bh U (.no U) (Ag hs U) (hs.tm U)) (fun _=>rfl) (fun _ _ _=>rfl) ?_
 refine DrawZ.pure U U U (fun ζ11 hp=>by exact B9 U fun σ' hs=>Bh U (.no U) (Ag hs U) (hs.tm U)) (fun _=>rfl) (fun _ _ _=>rfl) ?_;refine DrawZ.pure U U U (fun ζ11 hp=>by exact B9 U fun σ' hs=>C5 U (.no U) (Ag hs U) (hs.tm U) (.const U) (fun _=>by omega)) (fun _=>rfl) (fun _ _ _=>rfl) ?_;refine DrawZ.pure U U U (fun ζ11 hp=>by exact B9 U fun σ' hs=>Cl (n:=z14.toNat+1) U (.no U) (Ag hs U) (hs.tm U) (.yes (hs.tm U) (fun _=>by first|omega|(simp<;>omega))) .no Tryz.underlying9 (fun _=>⟨by omega,by first|omega|(simp;omega)⟩)) (fun _=>rfl) (fun _ _ _=>rfl) ?_
 refine DrawZ.pure U U U (fun ζ11 hp=>by obtain⟨⟨⟨⟨⟨⟨⟨⟨⟨⟨⟨⟨⟨⟨⟨⟨⟨⟨⟨_,_⟩,_⟩,_⟩,_⟩,_⟩,_⟩,_⟩,_⟩,hz55⟩,_⟩,_⟩,_⟩,_⟩,_⟩,_⟩,_⟩,_⟩,_⟩,_⟩:=hp;(try dsimp only at hz55);exact B9 U fun σ' hs=>Cr U (.no U) (Ag hs U) (hs.tm U) (hs.tm U) (fun _=>by simp only [ByteArray.size_append,ByteArray.size_extract,strOfNums_size,List.length_cons,List.length_nil];omega)) (fun _=>rfl) (by intro ζ ζ' h;first|rfl|(simp only [h 8 U])) ?_;refine DrawZ.pure U U U (fun ζ11 hp=>by obtain⟨⟨⟨⟨⟨⟨⟨⟨⟨⟨⟨⟨⟨⟨⟨⟨⟨⟨⟨⟨_,_⟩,_⟩,_⟩,_⟩,_⟩,_⟩,_⟩,_⟩,hz55⟩,_⟩,_⟩,_⟩,_⟩,_⟩,_⟩,_⟩,_⟩,_⟩,_⟩,_⟩:=hp;(try dsimp only at hz55);exact B9 U fun σ' hs=>R_assign U (.no U) (Ag hs U) (hs.tm U)) (fun _=>rfl) (by intro ζ ζ' h;first|rfl|(simp only [h 8 U])) ?_;refine DrawZ.fin U (fun _=>rfl) (fun _=>rfl) ?_;intro ζ11 hp
 obtain⟨⟨⟨⟨⟨⟨⟨⟨⟨⟨⟨⟨⟨⟨⟨⟨⟨⟨⟨⟨⟨_,_⟩,_⟩,_⟩,_⟩,_⟩,_⟩,_⟩,_⟩,hz55⟩,_⟩,_⟩,_⟩,_⟩,_⟩,_⟩,_⟩,_⟩,_⟩,_⟩,_⟩,_⟩:=hp
 try dsimp only at hz55
 dsimp only [finSl,finRs,addsR,List.map_cons,List.map_nil]
 refine Aa (Ap ?_);apply DRes.mk rfl
 case h=>
  refine Res.one U (.tmp U .nil) U ?_
  rfl
 case hp=>exact (by simp only [ByteArray.size_append,ByteArray.size_extract,strOfNums_size,List.length_cons,List.length_nil];omega)
end Go.Proofs.YtdhojcaoljhbiaaGreatDoor
set_option maxHeartbeats 1000000
set_option maxRecDepth 100000
namespace Go.Q
open Go.RowKit Go.D
theorem enc_no {v:Int} {b:TBatch} (h:recOk v b=false):encRec v b=[]:=by unfold encRec;rw [if_neg (by rw [h];decide)]
theorem enc_len (v:Int) (b:TBatch):(encRec v b).length≤130:=by
 cases h:recOk v b with
 | false=>rw [enc_no h];simp
 | true=>
  have hv:1≤v∧v≤999:=by have:=(rec_iff.1 h).1;unfold inB at this;simp at this;omega
  have h1:=itoS_len (n:=v) (by omega) (by omega)
  have h2:=itoS_len (n:=chkS (recHead v b)) (chkS_le _).1 (by have:=(chkS_le (recHead v b)).2;omega)
  have h3:=fmtBatch_len b
  unfold encRec;rw [if_pos h]
  unfold recHead at *
  simp only [List.length_append,List.length_singleton] at *
  omega
end Go.Q
set_option maxHeartbeats 1000000
set_option maxRecDepth 100000
namespace Go.Q
open Go.RowKit Go.D
theorem lastV_le (h:THistory):0≤lastV h∧lastV h≤999:=by
 unfold lastV
 split
 · rename_i hv;have:=validH_r hv;omega
 omega
end Go.Q
namespace Go.Proofs.YtdhojcaoljhbiaaGreatDoor
open Go.RowKit Go.Q Go.D
end Go.Proofs.YtdhojcaoljhbiaaGreatDoor
