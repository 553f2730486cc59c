import Derived.Test.YtdhojcaoljhbiaaGreatRows
import Derived.Test.YtdhojcaoljhbiaaGreatOpenBxc
import Derived.Test.YtdhojcaoljhbiaaGreatB157xc
set_option linter.unusedVariables false
set_option linter.unusedSimpArgs false
set_option maxRecDepth 100000
namespace Go.Proofs.YtdhojcaoljhbiaaGreat
open Go.RowKit Go.Q Go.D Go.ChangeShapes Go.WideShapes Go.ChangeAt Go.Deep
open Go.ChangeMaps (open_string shut_string)
set_option maxHeartbeats 1000000 in
theorem MF (bs:List Int) (hb:∀ n∈bs,0≤n∧n<256):FnT Tryz.prog 4 [.one (.sl 1 (byR bs))] (.a (.one (.v (.bool true)))):=by
 refine A8 Tryz.func4 U (by kernel_rfl) Tryz.ntmps4 U fun hlen w0=>?_
 try simp [AP] at hlen
 clear hlen;refine Af (An ?_);refine Aa (Ae (Af (Ab ?_)));refine By (Xi bs) ?_;refine Aa (Ai (.tm U) (fun h13=>?_) (fun h13=>?_))
 · try simp at h13
   refine Af (An ?_);refine Aa (Aq (Bl U U ?_))
   rfl
 try simp at h13
 refine Am (Af (Ab ?_));refine Bn (Wy ((GK bs hb).fr) U U U (.cons (.tm U) U .nil)) ?_
 rintro _ ⟨z16,hz16,rfl⟩
 try dsimp only at hz16
 refine Ac (Dd U (.no U) U U fun _=>rfl) U ?_;refine Ac (Bk U (.no U) U U (fun _=>rfl) U) U ?_;refine Ac (Bk U (.no U) U U (fun _=>rfl) U) U ?_;refine Ac (Bk U (.no U) U U (fun _=>rfl) U) U ?_;refine A6 (Bd 3 U U U OF U U U) U ?_;refine A6 (Bd 4 U U U JZ U U U) U ?_;refine A4 B7 ?_;refine A4 B6 ?_;refine Ah ?_;refine Aa (Af (Bb B7 ?_));refine Bb B6 ?_;refine Ab ?_;refine By (DS z16.1 z16.2.1 z16.2.2) ?_;refine Ah ?_;refine Aa (Ae (Af (Ab ?_)));refine Bb B7 ?_;refine Bb B6 ?_;refine Ab ?_;refine By (HZ z16.1 z16.2.1 z16.2.2) ?_;refine By (IB _ _) ?_;refine Cy ?_;refine Ab ?_;refine AWl.mw ?_;refine Ac (Be U (by exact .not1 U U U U) U (.tmp U (by exact fun _=>rfl)) U B7 U U) U ?_;refine Ac (Be U (by exact .not1 U U U U) U (.tmp U (by exact fun _=>rfl)) U B6 U U) U ?_
 refine Ac (Cw U (by exact .not1 U U U U) U (.cons (.tmp U (by exact id)) U (.cons (.tmp U (by exact id)) U .nil)) fun hq=>FnT.fr (IW z16.1 z16.2.1)) U ?_;refine Ac (Cw U (by exact .not1 U U U U) U (.cons (.tmp U (by exact id)) U (.cons (.tmp U (by exact id)) U .nil)) fun hq=>FnT.fr (Pp (CN z16.1 z16.2.1 z16.2.2) (KF z16.1 z16.2.1) (by have:=Js (g:=z16.1) (a:=z16.2.1) z16.2.2;omega) RF)) U ?_;refine Ac (Du U (by exact .not1 U U U U) U (.tmp U (by exact id))) U ?_;refine Co ?_;refine Aa (Ai (.tm U) (fun h38=>?_) (fun h38=>?_))
 · exact absurd h38 (by simp)
 try simp at h38
 refine Am (Ae (Ae (Bx 18 (DM [[],[],[0,1],[],[],[0,1,2,3,4],[0,1,2,3,4,5],[0,1,2,3,4,5,6],[0,1,2,3,4,5,6,7],[0,1,2,3,4,5,6,7,8],[0,1,2,3,4,5,6,7,8],[0,1,2,3,4,5,6,7,8,9,10],[0,1,2,3,4,5,6,7,8],[0,1,2,3,4,5,6,7,8],[0,1,2,3,4,5,6,7,8,9,10,11,12,13],[0,1,2,3,4,5,6,7,8,9,10,11,12,13,14],[0,1,2,3,4,5,6,7,8,9,10,11,12,13,14,15],[0,1,2,3,4,5,6,7,8,9,10,11,12,13,14,15,16]]) (by kernel_rfl) (by kernel_rfl) (by kernel_rfl) ?_)));refine AB.s (fun _ hs=>(by exact Be U (.no U) (Ag hs U) (hs.tm U) (hs.res _ _ U) B7 U U)) ?_;refine AB.s (fun _ hs=>(by exact Be U (.no U) (Ag hs U) (hs.tm U) (hs.res _ _ U) B6 U U)) ?_;refine AB.s (fun _ hs=>Bc (FnT.fr (DS z16.1 z16.2.1 0)) U (.no U) (Ag hs U) (.cons (hs.tm U) (AD hs U) (.cons (hs.tm U) (AD hs U) (.cons (.const U) (AD hs U) .nil)))) ?_
 refine AB.s (fun _ hs=>(by exact Be U (.no U) (Ag hs U) (hs.tm U) (hs.res _ _ U) B7 U U)) ?_;refine AB.s (fun _ hs=>(by exact Be U (.no U) (Ag hs U) (hs.tm U) (hs.res _ _ U) B6 U U)) ?_;refine AB.s (fun _ hs=>Bc (FnT.fr (IW z16.1 z16.2.1)) U (.no U) (Ag hs U) (.cons (hs.tm U) (AD hs U) (.cons (hs.tm U) (AD hs U) .nil))) ?_;refine AB.s (fun _ hs=>Bc (FnT.fr (IB _ _)) U (.no U) (Ag hs U) (.cons (hs.tm U) (AD hs U) (.cons (hs.tm U) (AD hs U) .nil))) ?_;refine AB.s (fun _ hs=>Du U (.no U) (Ag hs U) (hs.tm U)) ?_;refine Az ?_;refine AB.s (fun _ hs=>(by exact Be U (by exact hs.n1) (Ag hs U) (hs.tm U) (hs.res _ _ U) B7 U U)) ?_;refine AB.s (fun _ hs=>(by exact Be U (by exact hs.n1) (Ag hs U) (hs.tm U) (hs.res _ _ U) B6 U U)) ?_
 refine AB.s (fun _ hs=>Cw U (by exact hs.n1) (Ag hs U) (.cons (hs.ti U) (AD hs U) (.cons (hs.ti U) (AD hs U) (.cons (.const U) (AD hs U) .nil))) fun hq=>FnT.fr (DS z16.1 z16.2.1 3)) ?_;refine AB.s (fun _ hs=>(by exact Be U (by exact hs.n1) (Ag hs U) (hs.tm U) (hs.res _ _ U) B7 U U)) ?_;refine AB.s (fun _ hs=>(by exact Be U (by exact hs.n1) (Ag hs U) (hs.tm U) (hs.res _ _ U) B6 U U)) ?_;refine AB.s (fun _ hs=>Cw U (by exact hs.n1) (Ag hs U) (.cons (hs.ti U) (AD hs U) (.cons (hs.ti U) (AD hs U) (.cons (.const U) (AD hs U) .nil))) fun hq=>FnT.fr (DS z16.1 z16.2.1 2)) ?_
 refine AB.s (fun _ hs=>Cw U (by exact hs.n1) (Ag hs U) (.cons (hs.ti U) (AD hs U) (.cons (hs.ti U) (AD hs U) .nil)) fun hq=>FnT.fr (Pp (CN z16.1 z16.2.1 3) (CN z16.1 z16.2.1 2) (by have:=Js (g:=z16.1) (a:=z16.2.1) 3;omega) X5)) ?_;refine AB.s (fun _ hs=>Du U (by exact hs.n1) (Ag hs U) (hs.ti U)) ?_;refine AB.s (fun _ hs=>OK U (.no U) (Ag hs U) (hs.tm U) (hs.ti U)) ?_;refine Bs U U ?_;refine Aa (Ai (.tm U) (fun h56=>?_) (fun h56=>?_))
 · exact absurd h56 (by simp [Py])
 try simp at h56
 have hl25:=Js (g:=z16.1) (a:=z16.2.1) z16.2.2
 refine Am (Ae (Af (An ?_)));refine Aa (AW.block (B9 (fun (i:Nat)=>(i≤(CN z16.1 z16.2.1 z16.2.2).length)∧True) (fun (i:Nat)=>⟨_,[(7,(true,.a (.one (.t (.v (.int .i64 (i:Nat))))))),(3,_),(4,_),(5,_),(6,_)],[(3,.box [.t (.sl 1 (z16.1.Values.map AQ)),.t (.sl 4 (z16.1.Edges.map AP))]),(4,.box [.t (.v (.int .i64 z16.2.1.Start)),.t (.sl 1 (z16.2.1.Accept.map Ey)),.t (.sl 1 (z16.2.1.Next.map DV))])]⟩) (fun (i:Nat)=>(CN z16.1 z16.2.1 z16.2.2).length-i) (0) ⟨Nat.zero_le _,Y⟩ Aw ?_))
 rintro i ⟨hk,he⟩
 refine Ae (Af (Ab ?_));refine Ab ?_;refine Bi (.t) Tryz.underlying48 ?_;refine AWl.lt ?_;refine Aa (Ai (.tm U) (fun h60=>?_) (fun h60=>?_))
 · try simp at h60
   obtain⟨p,hpt⟩:∃ ξ,(CN z16.1 z16.2.1 z16.2.2)[i]?=some ξ:=⟨_,List.getElem?_eq_getElem (by omega)⟩
   have hpm:p∈CN z16.1 z16.2.1 z16.2.2:=List.mem_of_getElem? hpt
   obtain⟨W,hW⟩:=Vv hpm
   refine Am (Ae (AW.block (Ae (As (Ay [3,4,5,6,7,60] [3,4]) ?_))));apply Cr (N:=19) (k:=13) (Hs:=[0,1,2,3,4,5,6,7,8,9,10,11,12]) (ms:=[[],[13],[17],[13,14],[13,17],[13,14,15],[13,14,16],[13,14,17],[13,14,15,16],[13,14,15,17],[13,14,16,17],[13,14,15,16,17],[13,14,15,17,18],[13,14,15,16,17,18]]) (es:=[(0,13,1),(0,17,2),(1,14,3),(1,17,4),(2,13,4),(3,15,5),(3,16,6),(3,17,7),(4,14,7),(5,16,8),(6,15,8),(5,17,9),(7,15,9),(6,17,10),(7,16,10),(8,17,11),(9,16,11),(10,15,11),(9,18,12),(11,18,13),(12,16,13)]) (σ1:=_) (SM:=⟨_,[(3,_),(4,_),(5,_),(6,_),(7,_),(60,_),(64,_),(65,_),(66,_),(67,_),(68,_),(69,_),(70,_),(71,_),(72,_),(73,_),(74,_),(75,_),(76,_)],[(3,_),(4,_)]⟩)
   case hm=>kernel_rfl
   case hB=>kernel_rfl
   case hP=>kernel_rfl
   case hL=>kernel_rfl
   case hN=>rfl
   case hpre=>
    apply Ax (P:=Tryz.prog) 0 rfl ((Be rfl (.no rfl) rfl (.tm rfl) rfl B7 rfl rfl)) (by exact BM.load (x:=.tmp 3) (.tm rfl) rfl B7 rfl rfl) rfl rfl rfl;apply Ax (P:=Tryz.prog) 1 rfl ((by exact Be rfl (.no rfl) rfl (.tm rfl) rfl B6 rfl rfl)) (by exact BM.load (x:=.tmp 4) (.tm rfl) rfl B6 rfl rfl) rfl rfl rfl;apply Ax (P:=Tryz.prog) 2 rfl (Bh rfl (.no rfl) rfl (.tm rfl)) (by exact BM.slot (t:=5) rfl) rfl rfl rfl;apply Ax (P:=Tryz.prog) 3 rfl (Bh rfl (.no rfl) rfl (.tm rfl)) (by exact BM.slot (t:=6) rfl) rfl rfl rfl;apply Ax (P:=Tryz.prog) 4 rfl (Bh rfl (.no rfl) rfl (.tm rfl)) (by exact BM.slot (t:=7) rfl) rfl rfl rfl;apply Ax (P:=Tryz.prog) 5 rfl ((by exact Ak rfl (.no rfl) rfl (.tm rfl) (.tm rfl) Tryz.underlying48 Dq (fun _=>⟨by omega,(Ao hpt)⟩))) (by exact BM.ix (x:=.tmp 67) (.tm rfl) (y:=.tmp 68) (.tm rfl) Tryz.underlying48 Dq (fun _=>⟨by omega,(Ao hpt)⟩)) rfl rfl rfl
    apply Ax (P:=Tryz.prog) 6 rfl ((by exact Bu rfl (.no rfl) rfl (.tm rfl) Ir)) (by exact BM.ad (x:=.tmp 69) (.tm rfl)) rfl rfl rfl;apply Ax (P:=Tryz.prog) 7 rfl ((by exact Br rfl (.no rfl) rfl (.tm rfl) ty3 rfl rfl)) (by exact BM.ld (x:=.tmp 70) (.tm rfl) rfl rfl) rfl rfl rfl;apply Ax (P:=Tryz.prog) 8 rfl (Bh rfl (.no rfl) rfl (.tm rfl)) (by exact BM.slot (t:=6) rfl) rfl rfl rfl;apply Ax (P:=Tryz.prog) 9 rfl (Bh rfl (.no rfl) rfl (.tm rfl)) (by exact BM.slot (t:=7) rfl) rfl rfl rfl;apply Ax (P:=Tryz.prog) 10 rfl ((by exact Ak rfl (.no rfl) rfl (.tm rfl) (.tm rfl) Tryz.underlying48 Dq (fun _=>⟨by omega,(Ao hpt)⟩))) (by exact BM.ix (x:=.tmp 72) (.tm rfl) (y:=.tmp 73) (.tm rfl) Tryz.underlying48 Dq (fun _=>⟨by omega,(Ao hpt)⟩)) rfl rfl rfl
    apply Ax (P:=Tryz.prog) 11 rfl ((by exact Bu rfl (.no rfl) rfl (.tm rfl) K9)) (by exact BM.ad (x:=.tmp 74) (.tm rfl)) rfl rfl rfl;apply Ax (P:=Tryz.prog) 12 rfl ((by exact Br rfl (.no rfl) rfl (.tm rfl) ty3 rfl rfl)) (by exact BM.ld (x:=.tmp 75) (.tm rfl) rfl rfl) rfl rfl rfl;exact EC.nil
   case hS=>exact Ba
   case hH=>
    refine AX.lq B7 ?_;refine AX.lq B6 ?_;refine AX.mv ?_;refine AX.mv ?_;refine AX.mv ?_
    refine⟨⟨_,_,_,rfl,rfl,rfl,fun σ' hs=>(by exact Ak rfl (.no rfl) (Ag hs rfl) (.tm (hs.slots _ _ rfl)) (.tm (hs.slots _ _ rfl)) Tryz.underlying48 Dq (fun _=>⟨by omega,(Ao hpt)⟩))⟩,?_⟩
    refine⟨⟨_,_,_,rfl,rfl,rfl,fun σ' hs=>(by exact Bu rfl (.no rfl) (Ag hs rfl) (.tm (hs.slots _ _ rfl)) Ir)⟩,?_⟩
    refine⟨⟨_,_,_,rfl,rfl,rfl,fun σ' hs=>(by exact Br rfl (.no rfl) (Ag hs rfl) (.tm (hs.slots _ _ rfl)) ty3 rfl rfl)⟩,?_⟩
    refine AX.mv ?_;refine AX.mv ?_
    refine⟨⟨_,_,_,rfl,rfl,rfl,fun σ' hs=>(by exact Ak rfl (.no rfl) (Ag hs rfl) (.tm (hs.slots _ _ rfl)) (.tm (hs.slots _ _ rfl)) Tryz.underlying48 Dq (fun _=>⟨by omega,(Ao hpt)⟩))⟩,?_⟩
    refine⟨⟨_,_,_,rfl,rfl,rfl,fun σ' hs=>(by exact Bu rfl (.no rfl) (Ag hs rfl) (.tm (hs.slots _ _ rfl)) K9)⟩,?_⟩
    refine⟨⟨_,_,_,rfl,rfl,rfl,fun σ' hs=>(by exact Br rfl (.no rfl) (Ag hs rfl) (.tm (hs.slots _ _ rfl)) ty3 rfl rfl)⟩,?_⟩
    trivial
   apply Dh.new0 (i:=13);rfl;rfl;rfl
   · intro w9 _;refine By (Fu hW) ?_;exact Al [3,4,5,6,7,60,64,65,66,67,68,69,70,71,72,73,74,75,76,77] [3,4]
   intros;exact Ba
   apply Dh.new0 (i:=17);rfl;rfl;rfl
   · intro w9 _;refine A6 (Bd 8 U U U Ha U U U) U ?_;exact Al [3,4,5,6,7,8,60,64,65,66,67,68,69,70,71,72,73,74,75,76] [3,4,8]
   intros;exact Ba
   apply Dh.new0 (i:=14);rfl;rfl;rfl
   · intro w9 _;refine Ac (Dd U (.no U) U U fun _=>rfl) U ?_;exact Al [3,4,5,6,7,60,63,64,65,66,67,68,69,70,71,72,73,74,75,76] [3,4]
   intros;exact Ba
   apply Dh.new0 (i:=17);rfl;rfl;rfl
   · intro w9 _;refine A6 (Bd 8 U U U Ha U U U) U ?_;exact Al [3,4,5,6,7,8,60,64,65,66,67,68,69,70,71,72,73,74,75,76,77] [3,4,8]
   intros;exact Ba
   apply Dh.old0 (i:=13);rfl;rfl;rfl
   · intro w9 _;refine By (Fu hW) ?_;exact Aa Aw
   apply Dh.new0 (i:=15);rfl;rfl;rfl
   · intro w9 _;refine Ac (Bk U (.no U) U U (fun _=>rfl) U) U ?_;exact Al [3,4,5,6,7,60,63,64,65,66,67,68,69,70,71,72,73,74,75,76,78] [3,4]
   intros;exact Ba
   apply Dh.new0 (i:=16);rfl;rfl;rfl
   · intro w9 _;refine Ac (Bk U (.no U) U U (fun _=>rfl) U) U ?_;exact Al [3,4,5,6,7,60,63,64,65,66,67,68,69,70,71,72,73,74,75,76,79] [3,4]
   intros;exact Ba
   apply Dh.new0 (i:=17);rfl;rfl;rfl
   · intro w9 _;refine A6 (Bd 8 U U U Ha U U U) U ?_;exact Al [3,4,5,6,7,8,60,63,64,65,66,67,68,69,70,71,72,73,74,75,76] [3,4,8]
   intros;exact Ba
   apply Dh.old0 (i:=14);rfl;rfl;rfl
   · intro w9 _;refine Ac (Dd U (.no U) U U fun _=>rfl) U ?_;exact Aa Aw
   apply Dh.new0 (i:=16);rfl;rfl;rfl
   · intro w9 _;refine Ac (Bk U (.no U) U U (fun _=>rfl) U) U ?_;exact Al [3,4,5,6,7,60,64,65,66,67,68,69,70,71,72,73,74,75,76,78,79] [3,4]
   intros;exact Ba
   apply Dh.old0 (i:=15);rfl;rfl;rfl
   · intro w9 _;refine Ac (Bk U (.no U) U U (fun _=>rfl) U) U ?_;exact Aa Aw
   apply Dh.new0 (i:=17);rfl;rfl;rfl
   · intro w9 _;refine A6 (Bd 8 U U U Ha U U U) U ?_;exact Al [3,4,5,6,7,8,60,63,64,65,66,67,68,69,70,71,72,73,74,75,76,78] [3,4,8]
   intros;exact Ba
   apply Dh.old0 (i:=15);rfl;rfl;rfl
   · intro w9 _;refine Ac (Bk U (.no U) U U (fun _=>rfl) U) U ?_;exact Aa Aw
   apply Dh.new0 (i:=17);rfl;rfl;rfl
   · intro w9 _;refine A6 (Bd 8 U U U Ha U U U) U ?_;exact Al [3,4,5,6,7,8,60,63,64,65,66,67,68,69,70,71,72,73,74,75,76,79] [3,4,8]
   intros;exact Ba
   apply Dh.old0 (i:=16);rfl;rfl;rfl
   · intro w9 _;refine Ac (Bk U (.no U) U U (fun _=>rfl) U) U ?_;exact Aa Aw
   apply Dh.new0 (i:=17);rfl;rfl;rfl
   · intro w9 _;refine A6 (Bd 8 U U U Ha U U U) U ?_;exact Al [3,4,5,6,7,8,60,64,65,66,67,68,69,70,71,72,73,74,75,76,78,79] [3,4,8]
   intros;exact Ba
   apply Dh.old0 (i:=16);rfl;rfl;rfl
   · intro w9 _;refine Ac (Bk U (.no U) U U (fun _=>rfl) U) U ?_;exact Aa Aw
   apply Dh.old0 (i:=15);rfl;rfl;rfl
   · intro w9 _;refine Ac (Bk U (.no U) U U (fun _=>rfl) U) U ?_;exact Aa Aw
   apply Dh.new0 (i:=18);rfl;rfl;rfl
   · intro w9 _;refine A4 D6 ?_;exact Al [3,4,5,6,7,8,60,63,64,65,66,67,68,69,70,71,72,73,74,75,76] [3,4,8]
   intros;exact Ba
   apply Dh.new0 (i:=18);rfl;rfl;rfl
   · intro w9 _;refine A4 D6 ?_;exact Al [3,4,5,6,7,8,60,64,65,66,67,68,69,70,71,72,73,74,75,76,79] [3,4,8]
   intros;exact Ba
   apply Dh.old0 (i:=16);rfl;rfl;rfl
   · intro w9 _;refine Ac (Bk U (.no U) U U (fun _=>rfl) U) U ?_;exact Aa Aw
   refine Dh.fin0 (k:=13) rfl ?_;intro  hp
   obtain _:=hp
   refine Ah ?_;refine Aa (Ae (As (Ay [3,4,5,6,7,8,9,60] [3,4,8]) ?_));apply Cr (N:=19) (k:=13) (Hs:=[0,1,2,3,4,5,6,7,8,9,10,11,12]) (ms:=[[],[13],[17],[13,14],[13,17],[13,14,15],[13,14,16],[13,14,17],[13,14,15,16],[13,14,15,17],[13,14,16,17],[13,14,15,16,17],[13,14,15,17,18],[13,14,15,16,17,18]]) (es:=[(0,13,1),(0,17,2),(1,14,3),(1,17,4),(2,13,4),(3,15,5),(3,16,6),(3,17,7),(4,14,7),(5,16,8),(6,15,8),(5,17,9),(7,15,9),(6,17,10),(7,16,10),(8,17,11),(9,16,11),(10,15,11),(9,18,12),(11,18,13),(12,16,13)]) (σ1:=_) (SM:=⟨_,[(3,_),(4,_),(5,_),(6,_),(7,_),(8,_),(9,_),(60,_),(81,_),(82,_),(83,_),(84,_),(85,_),(86,_),(87,_),(88,_),(89,_),(90,_),(91,_),(92,_),(93,_)],[(3,_),(4,_),(8,_)]⟩)
   case hm=>kernel_rfl
   case hB=>kernel_rfl
   case hP=>kernel_rfl
   case hL=>kernel_rfl
   case hN=>rfl
   case hpre=>
    apply Ax (P:=Tryz.prog) 0 rfl ((Be rfl (.no rfl) rfl (.tm rfl) rfl B7 rfl rfl)) (by exact BM.load (x:=.tmp 3) (.tm rfl) rfl B7 rfl rfl) rfl rfl rfl;apply Ax (P:=Tryz.prog) 1 rfl ((by exact Be rfl (.no rfl) rfl (.tm rfl) rfl B6 rfl rfl)) (by exact BM.load (x:=.tmp 4) (.tm rfl) rfl B6 rfl rfl) rfl rfl rfl;apply Ax (P:=Tryz.prog) 2 rfl (Bh rfl (.no rfl) rfl (.tm rfl)) (by exact BM.slot (t:=5) rfl) rfl rfl rfl;apply Ax (P:=Tryz.prog) 3 rfl (Bh rfl (.no rfl) rfl (.tm rfl)) (by exact BM.slot (t:=6) rfl) rfl rfl rfl;apply Ax (P:=Tryz.prog) 4 rfl (Bh rfl (.no rfl) rfl (.tm rfl)) (by exact BM.slot (t:=7) rfl) rfl rfl rfl;apply Ax (P:=Tryz.prog) 5 rfl ((by exact Ak rfl (.no rfl) rfl (.tm rfl) (.tm rfl) Tryz.underlying48 Dq (fun _=>⟨by omega,(Ao hpt)⟩))) (by exact BM.ix (x:=.tmp 84) (.tm rfl) (y:=.tmp 85) (.tm rfl) Tryz.underlying48 Dq (fun _=>⟨by omega,(Ao hpt)⟩)) rfl rfl rfl
    apply Ax (P:=Tryz.prog) 6 rfl ((by exact Bu rfl (.no rfl) rfl (.tm rfl) Ir)) (by exact BM.ad (x:=.tmp 86) (.tm rfl)) rfl rfl rfl;apply Ax (P:=Tryz.prog) 7 rfl ((by exact Br rfl (.no rfl) rfl (.tm rfl) ty3 rfl rfl)) (by exact BM.ld (x:=.tmp 87) (.tm rfl) rfl rfl) rfl rfl rfl;apply Ax (P:=Tryz.prog) 8 rfl (Bh rfl (.no rfl) rfl (.tm rfl)) (by exact BM.slot (t:=6) rfl) rfl rfl rfl;apply Ax (P:=Tryz.prog) 9 rfl (Bh rfl (.no rfl) rfl (.tm rfl)) (by exact BM.slot (t:=7) rfl) rfl rfl rfl;apply Ax (P:=Tryz.prog) 10 rfl ((by exact Ak rfl (.no rfl) rfl (.tm rfl) (.tm rfl) Tryz.underlying48 Dq (fun _=>⟨by omega,(Ao hpt)⟩))) (by exact BM.ix (x:=.tmp 89) (.tm rfl) (y:=.tmp 90) (.tm rfl) Tryz.underlying48 Dq (fun _=>⟨by omega,(Ao hpt)⟩)) rfl rfl rfl
    apply Ax (P:=Tryz.prog) 11 rfl ((by exact Bu rfl (.no rfl) rfl (.tm rfl) K9)) (by exact BM.ad (x:=.tmp 91) (.tm rfl)) rfl rfl rfl;apply Ax (P:=Tryz.prog) 12 rfl ((by exact Br rfl (.no rfl) rfl (.tm rfl) ty3 rfl rfl)) (by exact BM.ld (x:=.tmp 92) (.tm rfl) rfl rfl) rfl rfl rfl;exact EC.nil
   case hS=>exact Ba
   case hH=>
    refine AX.lq B7 ?_;refine AX.lq B6 ?_;refine AX.mv ?_;refine AX.mv ?_;refine AX.mv ?_
    refine⟨⟨_,_,_,rfl,rfl,rfl,fun σ' hs=>(by exact Ak rfl (.no rfl) (Ag hs rfl) (.tm (hs.slots _ _ rfl)) (.tm (hs.slots _ _ rfl)) Tryz.underlying48 Dq (fun _=>⟨by omega,(Ao hpt)⟩))⟩,?_⟩
    refine⟨⟨_,_,_,rfl,rfl,rfl,fun σ' hs=>(by exact Bu rfl (.no rfl) (Ag hs rfl) (.tm (hs.slots _ _ rfl)) Ir)⟩,?_⟩
    refine⟨⟨_,_,_,rfl,rfl,rfl,fun σ' hs=>(by exact Br rfl (.no rfl) (Ag hs rfl) (.tm (hs.slots _ _ rfl)) ty3 rfl rfl)⟩,?_⟩
    refine AX.mv ?_;refine AX.mv ?_
    refine⟨⟨_,_,_,rfl,rfl,rfl,fun σ' hs=>(by exact Ak rfl (.no rfl) (Ag hs rfl) (.tm (hs.slots _ _ rfl)) (.tm (hs.slots _ _ rfl)) Tryz.underlying48 Dq (fun _=>⟨by omega,(Ao hpt)⟩))⟩,?_⟩
    refine⟨⟨_,_,_,rfl,rfl,rfl,fun σ' hs=>(by exact Bu rfl (.no rfl) (Ag hs rfl) (.tm (hs.slots _ _ rfl)) K9)⟩,?_⟩
    refine⟨⟨_,_,_,rfl,rfl,rfl,fun σ' hs=>(by exact Br rfl (.no rfl) (Ag hs rfl) (.tm (hs.slots _ _ rfl)) ty3 rfl rfl)⟩,?_⟩
    trivial
   apply Dh.new0 (i:=13);rfl;rfl;rfl
   · intro w9 _;refine By (Fo hW) ?_;exact Al [3,4,5,6,7,8,9,60,81,82,83,84,85,86,87,88,89,90,91,92,93,94] [3,4,8]
   intros;exact Ba
   apply Dh.new0 (i:=17);rfl;rfl;rfl
   · intro w9 _;refine A6 (Bd 10 U U U Ha U U U) U ?_;exact Al [3,4,5,6,7,8,9,10,60,81,82,83,84,85,86,87,88,89,90,91,92,93] [3,4,8,10]
   intros;exact Ba
   apply Dh.new0 (i:=14);rfl;rfl;rfl
   · intro w9 _;refine Ac (Dd U (.no U) U U fun _=>rfl) U ?_;exact Al [3,4,5,6,7,8,9,60,80,81,82,83,84,85,86,87,88,89,90,91,92,93] [3,4,8]
   intros;exact Ba
   apply Dh.new0 (i:=17);rfl;rfl;rfl
   · intro w9 _;refine A6 (Bd 10 U U U Ha U U U) U ?_;exact Al [3,4,5,6,7,8,9,10,60,81,82,83,84,85,86,87,88,89,90,91,92,93,94] [3,4,8,10]
   intros;exact Ba
   apply Dh.old0 (i:=13);rfl;rfl;rfl
   · intro w9 _;refine By (Fo hW) ?_;exact Aa Aw
   apply Dh.new0 (i:=15);rfl;rfl;rfl
   · intro w9 _;refine Ac (Bk U (.no U) U U (fun _=>rfl) U) U ?_;exact Al [3,4,5,6,7,8,9,60,80,81,82,83,84,85,86,87,88,89,90,91,92,93,95] [3,4,8]
   intros;exact Ba
   apply Dh.new0 (i:=16);rfl;rfl;rfl
   · intro w9 _;refine Ac (Bk U (.no U) U U (fun _=>rfl) U) U ?_;exact Al [3,4,5,6,7,8,9,60,80,81,82,83,84,85,86,87,88,89,90,91,92,93,96] [3,4,8]
   intros;exact Ba
   apply Dh.new0 (i:=17);rfl;rfl;rfl
   · intro w9 _;refine A6 (Bd 10 U U U Ha U U U) U ?_;exact Al [3,4,5,6,7,8,9,10,60,80,81,82,83,84,85,86,87,88,89,90,91,92,93] [3,4,8,10]
   intros;exact Ba
   apply Dh.old0 (i:=14);rfl;rfl;rfl
   · intro w9 _;refine Ac (Dd U (.no U) U U fun _=>rfl) U ?_;exact Aa Aw
   apply Dh.new0 (i:=16);rfl;rfl;rfl
   · intro w9 _;refine Ac (Bk U (.no U) U U (fun _=>rfl) U) U ?_;exact Al [3,4,5,6,7,8,9,60,81,82,83,84,85,86,87,88,89,90,91,92,93,95,96] [3,4,8]
   intros;exact Ba
   apply Dh.old0 (i:=15);rfl;rfl;rfl
   · intro w9 _;refine Ac (Bk U (.no U) U U (fun _=>rfl) U) U ?_;exact Aa Aw
   apply Dh.new0 (i:=17);rfl;rfl;rfl
   · intro w9 _;refine A6 (Bd 10 U U U Ha U U U) U ?_;exact Al [3,4,5,6,7,8,9,10,60,80,81,82,83,84,85,86,87,88,89,90,91,92,93,95] [3,4,8,10]
   intros;exact Ba
   apply Dh.old0 (i:=15);rfl;rfl;rfl
   · intro w9 _;refine Ac (Bk U (.no U) U U (fun _=>rfl) U) U ?_;exact Aa Aw
   apply Dh.new0 (i:=17);rfl;rfl;rfl
   · intro w9 _;refine A6 (Bd 10 U U U Ha U U U) U ?_;exact Al [3,4,5,6,7,8,9,10,60,80,81,82,83,84,85,86,87,88,89,90,91,92,93,96] [3,4,8,10]
   intros;exact Ba
   apply Dh.old0 (i:=16);rfl;rfl;rfl
   · intro w9 _;refine Ac (Bk U (.no U) U U (fun _=>rfl) U) U ?_;exact Aa Aw
   apply Dh.new0 (i:=17);rfl;rfl;rfl
   · intro w9 _;refine A6 (Bd 10 U U U Ha U U U) U ?_;exact Al [3,4,5,6,7,8,9,10,60,81,82,83,84,85,86,87,88,89,90,91,92,93,95,96] [3,4,8,10]
   intros;exact Ba
   apply Dh.old0 (i:=16);rfl;rfl;rfl
   · intro w9 _;refine Ac (Bk U (.no U) U U (fun _=>rfl) U) U ?_;exact Aa Aw
   apply Dh.old0 (i:=15);rfl;rfl;rfl
   · intro w9 _;refine Ac (Bk U (.no U) U U (fun _=>rfl) U) U ?_;exact Aa Aw
   apply Dh.new0 (i:=18);rfl;rfl;rfl
   · intro w9 _;refine A4 D6 ?_;exact Al [3,4,5,6,7,8,9,10,60,80,81,82,83,84,85,86,87,88,89,90,91,92,93] [3,4,8,10]
   intros;exact Ba
   apply Dh.new0 (i:=18);rfl;rfl;rfl
   · intro w9 _;refine A4 D6 ?_;exact Al [3,4,5,6,7,8,9,10,60,81,82,83,84,85,86,87,88,89,90,91,92,93,96] [3,4,8,10]
   intros;exact Ba
   apply Dh.old0 (i:=16);rfl;rfl;rfl
   · intro w9 _;refine Ac (Bk U (.no U) U U (fun _=>rfl) U) U ?_;exact Aa Aw
   refine Dh.fin0 (k:=13) rfl ?_;intro  hp
   obtain _:=hp
   refine Ah ?_
   refine Aa (Ae (Bx 32 (DM [[],[0],[0,1],[0,1,2],[0,1,2],[0,1,2,3,4],[0,1,2,3,4,5],[0,1,2,3,4,5,6],[0,1,2,3,4,5,6,7],[0,1,2,3,4,5,6,7,8],[0,1,2,3,4,5,6,7,8],[0,1,2,3,4,5,6,7,8],[0,1,2,3,4,5,6,7,8],[0,1,2,3,4,5,6,7,8,11,12],[0,1,2,3,4,5,6,7,8,11,12,13],[0,1,2,3,4,5,6,7,8,11,12,13,14],[0,1,2,3,4,5,6,7,8],[0,1,2,3,4,5,6,7,8],[0,1,2,3,4,5,6,7,8,16,17],[0,1,2,3,4,5,6,7,8,16,17,18],[0,1,2,3,4,5,6,7,8,16,17,18,19],[0,1,2,3,4,5,6,7,8],[0,1,2,3,4,5,6,7,8,9,10,11,12,13,14,15,16,17,18,19,20,21],[0,1,2,3,4,5,6,7,8,9,10,11,12,13,14,15,16,17,18,19,20,21,22],[0,1,2,3,4,5,6,7,8,9,10,11,12,13,14,15,16,17,18,19,20,21,22,23],[0,1,2,3,4,5,6,7,8,9,10,11,12,13,14,15,16,17,18,19,20,21,22,23,24],[0,1,2,3,4,5,6,7,8,9,10,11,12,13,14,15,16,17,18,19,20,21,22,23,24,25],[0,1,2,3,4,5,6,7,8,9,10,11,12,13,14,15,16,17,18,19,20,21,22,23,24,25],[0,1,2,3,4,5,6,7,8,9,10,11,12,13,14,15,16,17,18,19,20,21,22,23,24,25],[0,1,2,3,4,5,6,7,8,9,10,11,12,13,14,15,16,17,18,19,20,21,22,23,24,25,26,27,28],[0,1,2,3,4,5,6,7,8,9,10,11,12,13,14,15,16,17,18,19,20,21,22,23,24,25,26,27,28,29],[0,1,2,3,4,5,6,7,8,9,10,11,12,13,14,15,16,17,18,19,20,21,22,23,24,25,26,27,28,29,30]]) (by kernel_rfl) (by kernel_rfl) (by kernel_rfl) ?_))
   refine Az ?_;refine AB.s (fun _ hs=>Du U (.no U) (Ag hs U) (hs.tm U)) ?_;refine Az ?_;refine AB.s (fun _ hs=>(by exact Be U (by exact hs.n1) (Ag hs U) (hs.tm U) (hs.res _ _ U) D6 U U)) ?_;refine AB.s (fun _ hs=>(by exact Be U (by exact hs.n1) (Ag hs U) (hs.tm U) (hs.res _ _ U) D6 U U)) ?_;refine AB.s (fun _ hs=>Cw U (by exact hs.n1) (Ag hs U) (.cons (hs.tm U) (AD hs U) (.cons (hs.tm U) (AD hs U) .nil)) fun hq=>FnT.fr (KW W)) ?_;refine AB.s (fun _ hs=>GX U (by exact hs.n1) (Ag hs U) (hs.tm U) (.const U)) ?_;refine AB.s (fun _ hs=>OK U (.no U) (Ag hs U) (hs.tm U) (hs.tm U)) ?_;refine Az ?_;refine AB.s (fun _ hs=>(by exact Be U (by exact hs.n1) (Ag hs U) (hs.tm U) (hs.res _ _ U) B7 U U)) ?_;refine AB.s (fun _ hs=>(by exact Be U (by exact hs.n1) (Ag hs U) (hs.tm U) (hs.res _ _ U) B6 U U)) ?_
   refine AB.s (fun _ hs=>Bh U (by exact hs.n1) (Ag hs U) (hs.tm U)) ?_;refine AB.s (fun _ hs=>Bh U (by exact hs.n1) (Ag hs U) (hs.tm U)) ?_;refine AB.s (fun _ hs=>(by exact Ak U (by exact hs.n1) (Ag hs U) (hs.tm U) (hs.tm U) Tryz.underlying48 Dq (fun hq=>by (try simp at hq);exact⟨by omega,(Ao hpt)⟩))) ?_;refine AB.s (fun _ hs=>(by exact Bu U (by exact hs.n1) (Ag hs U) (hs.tm U) Ir)) ?_;refine AB.s (fun _ hs=>(by exact Br U (by exact hs.n1) (Ag hs U) (hs.tm U) ty3 U U)) ?_;refine AB.s (fun _ hs=>Bh U (by exact hs.n1) (Ag hs U) (hs.tm U)) ?_;refine AB.s (fun _ hs=>Bh U (by exact hs.n1) (Ag hs U) (hs.tm U)) ?_;refine AB.s (fun _ hs=>(by exact Ak U (by exact hs.n1) (Ag hs U) (hs.tm U) (hs.tm U) Tryz.underlying48 Dq (fun hq=>by (try simp at hq);exact⟨by omega,(Ao hpt)⟩))) ?_
   refine AB.s (fun _ hs=>(by exact Bu U (by exact hs.n1) (Ag hs U) (hs.tm U) K9)) ?_;refine AB.s (fun _ hs=>(by exact Br U (by exact hs.n1) (Ag hs U) (hs.tm U) ty3 U U)) ?_;refine AB.s (fun _ hs=>(by exact Be U (by exact hs.n1) (Ag hs U) (hs.tm U) (hs.res _ _ U) D6 U U)) ?_;refine AB.s (fun _ hs=>Cw U (by exact hs.n1) (Ag hs U) (.cons (hs.tm U) (AD hs U) (.cons (hs.tm U) (AD hs U) (.cons (hs.tm U) (AD hs U) (.cons (hs.tm U) (AD hs U) (.cons (hs.tm U) (AD hs U) .nil))))) fun hq=>FnT.fr (N2 hpm hW)) ?_;refine AB.s (fun _ hs=>Du U (by exact hs.n1) (Ag hs U) (hs.tm U)) ?_;refine AB.s (fun _ hs=>OK U (.no U) (Ag hs U) (hs.tm U) (hs.tm U)) ?_;refine Az ?_;refine AB.s (fun _ hs=>(by exact Be U (by exact hs.n1) (Ag hs U) (hs.tm U) (hs.res _ _ U) B7 U U)) ?_
   refine AB.s (fun _ hs=>Bh U (by exact hs.n1) (Ag hs U) (hs.tm U)) ?_;refine AB.s (fun _ hs=>(by exact Be U (by exact hs.n1) (Ag hs U) (hs.tm U) (hs.res _ _ U) D6 U U)) ?_;refine AB.s (fun _ hs=>Cw U (by exact hs.n1) (Ag hs U) (.cons (hs.tm U) (AD hs U) (.cons (hs.tm U) (AD hs U) (.cons (hs.tm U) (AD hs U) .nil))) fun hq=>FnT.fr (LL hpm hW)) ?_;refine AB.s (fun _ hs=>Du U (by exact hs.n1) (Ag hs U) (hs.tm U)) ?_;refine AB.s (fun _ hs=>OK U (.no U) (Ag hs U) (hs.tm U) (hs.tm U)) ?_;refine Bs U U ?_;refine Aa (Ai (.tm U) (fun h128=>?_) (fun h128=>?_))
   · exact absurd h128 (by simp)
   try simp at h128
   refine Am (Ad (Ab ?_));refine A9 ?_;refine Ah ?_;refine Aa ?_
   repeat (with_reducible refine Av ?_)
   refine BF.next (i+1) ⟨by omega,Y⟩ (by omega) (Au rfl ⟨rfl,rfl,rfl,rfl,rfl,Y⟩ ⟨(by rfl),(by rfl),Y⟩)
 try simp at h60
 refine Bf (Af (An ?_));refine Aa (Aq (Bl U U ?_))
 rfl
namespace LFnConditions
theorem U0:J6 P1 Tryz.prog 5:=SA Tryz.underlying5
theorem SB:J6 (fun (l:List (Fin 256))=>[T.sl 1 (l.map P1)]) Tryz.prog 22:=Rl (c:=P1) Tryz.underlying22 (by kernel_rfl) (by decide) (fun _=>rfl) U0
theorem ME:ownKnob Tryz.prog.godebug=none:=by kernel_rfl
theorem Gl:laidOutB Tryz.prog=true:=by kernel_rfl
theorem liftedFnConditions (os:Os) (started:os.Started) (H:Type) (enc:TypeId×Value→H) :
 ReturnsInHanded {} Tryz.checked os 4 .any (Rows.fnConditionsSpec.pre6 enc Tryz.prog Tryz.f4 Rows.fnConditionsRow.domain false) (Rows.fnConditionsSpec.post enc Tryz.prog Tryz.f4 false true false false):=by
 refine returnsInHanded_of_change_shaped (C:=Tryz.checked) ME started (by kernel_rfl) Tryz.func4
  (ChangeSpec.witness6 (enc:=enc) (C:=Tryz.checked) false ⟨#[],#[.slice none 0 0],[]⟩ 8 (by kernel_rfl) (by kernel_rfl) (by kernel_rfl) (by kernel_rfl)) ?_
 intro W base args ds gs before hval0 hW hcnd _ hsh _
 have hgood:Go.Q.Good W []:=Go.Q.good_of ⟨hsh,trivial,trivial⟩
 have hval:∀ (j:Nat) t v,Tryz.f4.params[j]?=some t→args[j]?=some v→Value.okWide Tryz.prog W .any base t v:=hval0
 have hW':=hW
 obtain⟨p,q,hA0,hV,rfl,hfz,hnd⟩:=hW
 have hA:DataW.TrodAll enc Tryz.prog W 0 (fun _=>true) true Tryz.f4.params.toList args.toList ds p:=hA0
 rw [Tryz.params4] at hA hval
 obtain⟨v0,vs0,d0,ds0,p0,q0,hargs,rfl,rfl,h0,r0⟩:=trodAll_cons hA
 obtain⟨rfl,rfl,rfl⟩:=trodAll_nil r0
 obtain rfl:args=#[v0]:=by cases args;simp_all
 obtain⟨rfl,rfl⟩:=trodVars_none hV
 obtain⟨a0,len0,cap0,rfl⟩:=okWide_slice Tryz.underlying22 (hval 0 22 v0 rfl rfl)
 have k0:=h0
 have lt0:∀ x∈p0,x.block<W.heap.size:=by obtain⟨m,hm⟩:=k0;exact DataW.trod_lt m _ _ _ hm
 obtain⟨x0,F0,hs0⟩:=J6.vl SB h0
 clear hA0 hval0;refine ((MF _ (UC x0)).2 W _ _ hgood ⟨_,_,_,_,rfl,(show V0r false W (.one _) _ _ from Zv (Tm hs0)),⟨rfl,rfl⟩,rfl⟩).mono fun e W' ⟨v,F,he,hv,_,_,bel⟩=>?_
 have hv2:v=.bool true:=by unfold Vr V0r C at hv;exact hv.1
 subst hv2;subst he
 exact⟨_,rfl,_,_,_,[],_,[],hW',trodAll_mk1 (shut_bool Tryz.underlying4 _),(trodAll_cons_mk (Below.trod Gl (by kernel_rfl) (of_decide_eq_true (by kernel_rfl)) k0 bel lt0) trodAll_mk0),rfl,Below.frame bel _,fun h=>by cases h⟩
theorem jfa:(Rows.fnConditionsRow.inPlace == Tryz.prog.inPlace 4)=true:=by kernel_rfl
theorem jfb:(Rows.fnConditionsRow.unfollowed == Tryz.prog.unfollowed 4)=true:=by kernel_rfl
theorem jfc:(Rows.fnConditionsRow.recurses == Tryz.prog.recurses 4)=true:=by kernel_rfl
theorem jfd:(Rows.fnConditionsRow.named == Tryz.prog.varsNamed 4)=true:=by kernel_rfl
theorem jfe:mapsRowed Tryz.prog=true:=by kernel_rfl
theorem jff:joinedFacts Tryz.prog 4 Tryz.f4 Rows.fnConditionsSpec Rows.fnConditionsRow=true:=by
 unfold joinedFacts
 rw [Gl,jfa,jfb,jfc,jfd,jfe]
 kernel_rfl
theorem provedFnConditions:Rows.FnConditionsSaid:=
 OpenClaim.holds_of_wide 4 Tryz.f4 rfl rfl rfl rfl rfl rfl rfl ⟨rfl,rfl,rfl,rfl,rfl⟩ rfl rfl rfl rfl rfl (by kernel_rfl) Tryz.func4 jff
  (of_decide_eq_true (by kernel_rfl)) (by unfold Func.isWrapper;first|(rw [if_pos (by decide +kernel)];kernel_rfl)|(rw [if_neg (by decide +kernel)];exact⟨rfl,rfl⟩))
  (fun os started H enc _=>liftedFnConditions os started H enc)
#print axioms provedFnConditions
end LFnConditions
end Go.Proofs.YtdhojcaoljhbiaaGreat
