import Derived.Test.YtdhojcaoljhbiaaGreatB150xc
set_option linter.unusedVariables false
set_option linter.unusedSimpArgs false
set_option maxHeartbeats 1000000
set_option maxRecDepth 100000
open Go.Proofs.Tryz renaming prog->Z9,underlying40->ZA,underlying34->ZB,underlying33->ZD,func105->ZI,ntmps105->ZJ,func51->ZK,ntmps51->ZL,func21->ZM,ntmps21->ZN
open List renaming getElem?_eq_getElem->ZC,mem_of_getElem?->ZE,set_set->ZF,map_set->ZG,map_take->ZH
namespace Go.Q
open Go.RowKit Go.D Go.Proofs.YtdhojcaoljhbiaaGreat
theorem Mp:FnD Z9 105 [] (fun _:AA=>True) (fun a=>.a (.agg (AE a))):=by
 refine FnD.walk ZI U (by kernel_rfl) ZJ U (fun g=>rfl) fun w0 g=>?_
 refine Af (A6 (Bd 2 U U U JZ U U U) U ?_);refine Aa (Af (Ab ?_));refine Bn (Bo 500 (Mo) U U U (.tm U) U U .nil (fun _=>rfl) (fun _=>rfl)) ?_
 rintro _ ⟨z5,hz5,rfl⟩
 try dsimp only at hz5
 refine A6 (Bd 3 U U U JZ U U U) U ?_;refine A4 B6 ?_;refine Aa (Ae (Af (Ab ?_)));refine Bn (Bo 700 (BL _) U U U (.tm U) U U (.cons (.const U) U .nil) (fun _=>rfl) (fun _=>rfl)) ?_
 rintro _ ⟨z7,hz7,rfl⟩
 try dsimp only at hz7
 refine Aa (AW.block (Af (Bw ?_)));refine Ah ?_;refine Aa (Ai (.tm U) (fun h8=>?_) (fun h8=>?_))
 · try simp at h8
   refine Ad (Ab ?_);refine Ac (Cf (xs:=[.const (.int .i64 (-1)),.const (.int .i64 (12)),.const (.int .i64 (1))]) (rows:=[AQ (-1),AQ 12,AQ 1]) U U U (.cons (.const U) U U (.cons (.const U) U U (.cons (.const U) U U .nil))) ZA in3 U U (U)) U ?_;refine Bn (Bo 1200 (CL [-1,12,1] (by decide)) U U U (.tm U) U U (.cons (.tm U) U .nil) (fun _=>rfl) (fun _=>rfl)) ?_
   rintro _ ⟨z12,hz12,rfl⟩
   try dsimp only at hz12
   refine Bq Jn ?_;refine A4 ty3 ?_;refine Aa (Ae (As (Ay [0,2,3,7] [888888,2,500,501,3]) ?_));refine Ad (Bb B6 ?_);refine A4 B6 ?_;refine Aa (Aq ?_);apply Ev.mk (x:=⟨z12,z5.Accept,z5.Next⟩) rfl
   case h=>
    refine Res.one U (.cell U U B6 U U .nil) U ?_
    rfl
   case hp=>exact trivial
 try simp at h8
 refine Af (Bw ?_);refine Ah ?_;refine Aa (Ai (.tm U) (fun h14=>?_) (fun h14=>?_))
 · try simp at h14
   have hac:=hz5.2.2
   refine As (Ay [0,2,3,7] [888888,2,500,501,3]) ?_;refine Ad (Bq Db ?_);refine Bb FU ?_;refine Ac (Cf (xs:=[.const (.bool true)]) (rows:=[Ey true]) U U U (.cons (.const U) U U .nil) ZD in4 U U (U)) U ?_;refine Bt (B8 U U U (.tm U) U (.tm U) (by exact .t) (by rfl) ZD in4 U (by (simp [AH];omega)) (by (unfold maxLen;simp [AH];omega))) U ?_;refine Bv (Ay [0,2,3,7,19] [888888,2,500,501,3]) ?_;refine Bq Db ?_;refine A4 FU ?_;refine Aa (Af (Bb B6 ?_));refine A4 B6 ?_;refine Aa (Aq ?_);apply Ev.mk (x:=⟨z5.Start,z5.Accept++[true],z5.Next⟩) rfl
   case h=>
    refine Res.one U (.cell U U B6 U U .nil) U ?_
    (refine congrArg (fun r=>[V0.agg [.v (.int .i64 z5.Start),.sl 1 r,.sl 1 (z5.Next.map DV)]]) ?_;rw [List.map_append];rfl)
   case hp=>exact trivial
 try simp at h14
 refine Ae (As (Ay [0,2,3,7] [888888,2,500,501,3]) ?_);refine Ad (Bw ?_);refine Ah ?_;refine Aa (Ai (.tm U) (fun h21=>?_) (fun h21=>?_))
 · try simp at h21
   obtain⟨r0,hr0⟩:∃ ξ,z5.Next[0]?=some ξ:=⟨_,ZC (by have:=hz5.1;omega)⟩
   have hrl:=hz5.2.1 r0 (ZE hr0)
   obtain⟨x0,hx0⟩:∃ ξ,r0[0]?=some ξ:=⟨_,ZC (by omega)⟩
   refine AW.takeR (id:=501) (i:=0) (p:=0) 721 722 U (Ao hr0) U (fun _=>rfl) (fun _=>rfl) fun c721=>?_
   refine As (Ay [0,2,3,7,21,22] [888888,2,500,501,3,721,722]) ?_;apply Cr (N:=7) (k:=8) (Hs:=[0,1,4]) (ms:=[[],[2],[5],[2,3],[2,5],[5,6],[2,3,5],[2,5,6],[2,3,5,6]]) (es:=[(0,2,1),(0,5,2),(1,3,3),(1,5,4),(2,2,4),(2,6,5),(3,5,6),(4,3,6),(4,6,7),(5,2,7),(6,6,8),(7,3,8)]) (σ1:=_) (SM:=⟨_,[(0,_),(2,_),(3,_),(7,_),(21,_),(22,_),(23,_),(24,_),(27,_)],[(888888,_),(2,_),(500,_),(501,_),(3,_),(721,_),(722,_)]⟩)
   case hm=>kernel_rfl
   case hB=>kernel_rfl
   case hP=>kernel_rfl
   case hL=>kernel_rfl
   case hN=>rfl
   case hpre=>
    apply Ax (P:=Z9) 0 rfl ((Bj rfl (.no rfl) rfl (.tm rfl) Da)) (by exact .pp) rfl rfl rfl;apply Ax (P:=Z9) 1 rfl ((by exact Be rfl (.no rfl) rfl (.tm rfl) rfl Gh rfl rfl)) (by exact BM.load (x:=.tmp 23) (.tm rfl) rfl Gh rfl rfl) rfl rfl rfl;apply Ax (P:=Z9) 4 rfl (Bh rfl (.no rfl) rfl (.tm rfl)) (by exact BM.slot (t:=0) rfl) rfl rfl rfl;exact EC.nil
   case hS=>exact Ba
   case hH=>
    refine AX.fq Da ?_;refine AX.lq Gh ?_;refine AX.mv ?_
    trivial
   apply Dh.new0 (i:=2);rfl;rfl;rfl
   · intro w9 _;refine Ac (by exact A3 U (.no U) U (.tm U) U (.const U) ZB Cc (fun _=>⟨by omega,BP _ (Ao hr0)⟩)) U ?_;exact Al [0,2,3,7,21,22,23,24,25,27] [888888,2,500,501,3,721,722]
   intros;exact Ba
   apply Dh.new0 (i:=5);rfl;rfl;rfl
   · intro w9 _;refine Ac (Cf (xs:=[.const (.int .i64 (-2)),.const (.int .i64 (12)),.const (.int .i64 (0))]) (rows:=[AQ (-2),AQ 12,AQ 0]) U U U (.cons (.const U) U U (.cons (.const U) U U (.cons (.const U) U U .nil))) ZA in3 U U (U)) U ?_;exact Al [0,2,3,7,21,22,23,24,27,28] [888888,2,500,501,3,721,722]
   intros;exact Ba
   apply Dh.new0 (i:=3);rfl;rfl;rfl
   · intro w9 _;refine Ac (C2 (nid:=721) (hid:=722) U (.no U) U (.tm U) U (BP _ (Ao hr0)) Cc U U U U U U) U ?_;exact Al [0,2,3,7,21,22,23,24,26,27] [888888,2,500,501,3,721,722]
   intros;exact Ba
   apply Dh.new0 (i:=5);rfl;rfl;rfl
   · intro w9 _;refine Ac (Cf (xs:=[.const (.int .i64 (-2)),.const (.int .i64 (12)),.const (.int .i64 (0))]) (rows:=[AQ (-2),AQ 12,AQ 0]) U U U (.cons (.const U) U U (.cons (.const U) U U (.cons (.const U) U U .nil))) ZA in3 U U (U)) U ?_;exact Al [0,2,3,7,21,22,23,24,25,27,28] [888888,2,500,501,3,721,722]
   intros;exact Ba
   apply Dh.old0 (i:=2);rfl;rfl;rfl
   · intro w9 _;refine Ac (A3 U (.no U) U (.tm U) U (.const U) ZB Cc (fun _=>⟨by omega,BP _ (Ao hr0)⟩)) U ?_;exact Aa Aw
   apply Dh.drw0 (i:=6)
   case ha=>rfl
   case ho=>rfl
   case hE=>
    intro  hp
    obtain _:=hp
    exact Bo 2900 (CL [-2,12,0] (by decide)) rfl rfl rfl (.tm rfl) rfl rfl (.cons (.tm rfl) rfl .nil) (fun _=>rfl) (fun _=>rfl)
   case hb=>rfl
   case hL=>
    intro  z29 hp hy;exact CV.eq (Ay [0,2,3,7,21,22,23,24,27,29] [888888,2,500,501,3,721,722]) U
   case hS=>intros;exact Ba
   apply Dh.new0 (i:=5);rfl;rfl;rfl
   · intro w9 _;refine Ac (Cf (xs:=[.const (.int .i64 (-2)),.const (.int .i64 (12)),.const (.int .i64 (0))]) (rows:=[AQ (-2),AQ 12,AQ 0]) U U U (.cons (.const U) U U (.cons (.const U) U U (.cons (.const U) U U .nil))) ZA in3 U U (U)) U ?_;exact Al [0,2,3,7,21,22,23,24,26,27,28] [888888,2,500,501,3,721,722]
   intros;exact Ba
   apply Dh.old0 (i:=3);rfl;rfl;rfl
   · intro w9 _;refine Ac (C2 (nid:=721) (hid:=722) U (.no U) U (.tm U) U (BP _ (Ao hr0)) Cc U U U U U U) U ?_;exact Aa Aw
   apply Dh.drw0 (i:=6)
   case ha=>rfl
   case ho=>rfl
   case hE=>
    intro  hp
    obtain _:=hp
    exact Bo 2900 (CL [-2,12,0] (by decide)) rfl rfl rfl (.tm rfl) rfl rfl (.cons (.tm rfl) rfl .nil) (fun _=>rfl) (fun _=>rfl)
   case hb=>rfl
   case hL=>
    intro  z29 hp hy;exact CV.eq (Ay [0,2,3,7,21,22,23,24,25,27,29] [888888,2,500,501,3,721,722]) U
   case hS=>intros;exact Ba
   apply Dh.old1 (i:=2);rfl;rfl;rfl
   · intro w9 z29 hp
     obtain⟨_,hz29⟩:=hp
     refine Ac (A3 U (.no U) U (.tm U) U (.const U) ZB Cc (fun _=>⟨by omega,BP _ (Ao hr0)⟩)) U ?_;exact Aa Aw
   apply Dh.drw0 (i:=6)
   case ha=>rfl
   case ho=>rfl
   case hE=>
    intro  hp
    obtain _:=hp
    exact Bo 2900 (CL [-2,12,0] (by decide)) rfl rfl rfl (.tm rfl) rfl rfl (.cons (.tm rfl) rfl .nil) (fun _=>rfl) (fun _=>rfl)
   case hb=>rfl
   case hL=>
    intro  z29 hp hy;exact CV.eq (Ay [0,2,3,7,21,22,23,24,26,27,29] [888888,2,500,501,3,721,722]) U
   case hS=>intros;exact Ba
   apply Dh.old1 (i:=3);rfl;rfl;rfl
   · intro w9 z29 hp
     obtain⟨_,hz29⟩:=hp
     refine Ac (C2 (nid:=721) (hid:=722) U (.no U) U (.tm U) U (BP _ (Ao hr0)) Cc U U U U U U) U ?_;exact Aa Aw
   refine Dh.fin1 (k:=8) rfl ?_;intro z29 hp
   obtain⟨_,hz29⟩:=hp
   refine Ac (A3 U (.no U) U (.tm U) U (.const U) ZA ty3 (fun _=>⟨by omega,Ao hx0⟩)) U ?_;refine Cu (C0 U U U (.tm U) U (.tm U) U (Ao hx0) ty3 U U U U) ?_;refine Aa (As (Le.putR (nid:=721) (hid:=722) (id:=501) (i:=0) (p:=0) U U U (BP _ (Ao hr0)) U U U U) ?_);refine Ae (As (Ay [0,2,3,7] [888888,2,500,501,3]) ?_);refine Ad (Bb B6 ?_);refine A4 B6 ?_;refine Aa (Aq ?_);apply Ev.mk (x:=⟨z5.Start,z5.Accept,z5.Next.set 0 (r0.set 0 z29)⟩) rfl
   case h=>
    refine Res.one U (.cell U U B6 U U .nil) U ?_
    (refine congrArg (fun r=>[V0.agg [.v (.int .i64 z5.Start),.sl 1 (z5.Accept.map Ey),.sl 1 r]]) ?_;simp [ZF,ZG,ZH,DV,AQ])
   case hp=>exact trivial
 try simp at h21
 refine Af (Bw ?_);refine Ah ?_;refine Aa (Ai (.tm U) (fun h31=>?_) (fun h31=>?_))
 · try simp at h31
   obtain⟨r0,hr0⟩:∃ ξ,z5.Next[0]?=some ξ:=⟨_,ZC (by have:=hz5.1;omega)⟩
   have hrl:=hz5.2.1 r0 (ZE hr0)
   refine AW.takeR (id:=501) (i:=0) (p:=0) 721 722 U (Ao hr0) U (fun _=>rfl) (fun _=>rfl) fun c721=>?_
   refine AW.dagn 9 19 [[],[0],[2],[0,1],[0,2],[2,3],[0,1,2],[0,2,3],[2,3,4],[0,1,2,3],[0,2,3,4],[2,3,4,5],[0,1,2,3,4],[0,2,3,4,5],[2,3,4,5,6],[0,1,2,3,4,5],[0,2,3,4,5,6],[0,1,2,3,4,5,6],[0,1,2,3,4,5,6,7],[0,1,2,3,4,5,6,7,8]] [(0,0,1),(0,2,2),(1,1,3),(1,2,4),(2,0,4),(2,3,5),(3,2,6),(4,1,6),(4,3,7),(5,0,7),(5,4,8),(6,3,9),(7,1,9),(7,4,10),(8,0,10),(8,5,11),(9,4,12),(10,1,12),(10,5,13),(11,0,13),(11,6,14),(12,5,15),(13,1,15),(13,6,16),(14,0,16),(15,6,17),(16,1,17),(17,7,18),(18,8,19)] (by kernel_rfl) (by kernel_rfl) (by kernel_rfl) ?_;apply Ar (i:=0)
   case ha|ho|hb=>rfl
   case hE=>
    intro w9;refine Bq Da ?_;exact Al [0,2,3,7,21,31,33] [888888,2,500,501,3,721,722]
   apply Ar (i:=2);rfl;rfl;rfl
   · intro w9;refine Bq Da ?_;exact Al [0,2,3,7,21,31,35] [888888,2,500,501,3,721,722]
   apply Ar (i:=1);rfl;rfl;rfl
   · intro w9;refine Bb Gh ?_;exact Al [0,2,3,7,21,31,34] [888888,2,500,501,3,721,722]
   apply Ar (i:=2);rfl;rfl;rfl
   · intro w9;refine Bq Da ?_;exact Al [0,2,3,7,21,31,33,35] [888888,2,500,501,3,721,722]
   apply Ap (i:=0);rfl;rfl;rfl
   · intro w9;refine Bq Da ?_;exact Aa Aw
   apply Ar (i:=3);rfl;rfl;rfl
   · intro w9;refine Bb Gh ?_;exact Al [0,2,3,7,21,31,36] [888888,2,500,501,3,721,722]
   apply Ar (i:=2);rfl;rfl;rfl
   · intro w9;refine Bq Da ?_;exact Al [0,2,3,7,21,31,34,35] [888888,2,500,501,3,721,722]
   apply Ap (i:=1);rfl;rfl;rfl
   · intro w9;refine Bb Gh ?_;exact Aa Aw
   apply Ar (i:=3);rfl;rfl;rfl
   · intro w9;refine Bb Gh ?_;exact Al [0,2,3,7,21,31,33,36] [888888,2,500,501,3,721,722]
   apply Ap (i:=0);rfl;rfl;rfl
   · intro w9;refine Bq Da ?_;exact Aa Aw
   apply Ar (i:=4);rfl;rfl;rfl
   · intro w9;refine Ac (A3 U (.no U) U (.tm U) U (.const U) ZB Cc (fun _=>⟨by omega,BP _ (Ao hr0)⟩)) U ?_;exact Al [0,2,3,7,21,31,37] [888888,2,500,501,3,721,722]
   apply Ar (i:=3);rfl;rfl;rfl
   · intro w9;refine Bb Gh ?_;exact Al [0,2,3,7,21,31,34,36] [888888,2,500,501,3,721,722]
   apply Ap (i:=1);rfl;rfl;rfl
   · intro w9;refine Bb Gh ?_;exact Aa Aw
   apply Ar (i:=4);rfl;rfl;rfl
   · intro w9;refine Ac (A3 U (.no U) U (.tm U) U (.const U) ZB Cc (fun _=>⟨by omega,BP _ (Ao hr0)⟩)) U ?_;exact Al [0,2,3,7,21,31,33,37] [888888,2,500,501,3,721,722]
   apply Ap (i:=0);rfl;rfl;rfl
   · intro w9;refine Bq Da ?_;exact Aa Aw
   apply Ar (i:=5);rfl;rfl;rfl
   · intro w9;refine Ac (C2 (nid:=721) (hid:=722) U (.no U) U (.tm U) U (BP _ (Ao hr0)) Cc U U U U U U) U ?_;exact Al [0,2,3,7,21,31,38] [888888,2,500,501,3,721,722]
   apply Ar (i:=4);rfl;rfl;rfl
   · intro w9;refine Ac (A3 U (.no U) U (.tm U) U (.const U) ZB Cc (fun _=>⟨by omega,BP _ (Ao hr0)⟩)) U ?_;exact Al [0,2,3,7,21,31,34,37] [888888,2,500,501,3,721,722]
   apply Ap (i:=1);rfl;rfl;rfl
   · intro w9;refine Bb Gh ?_;exact Aa Aw
   apply Ar (i:=5);rfl;rfl;rfl
   · intro w9;refine Ac (C2 (nid:=721) (hid:=722) U (.no U) U (.tm U) U (BP _ (Ao hr0)) Cc U U U U U U) U ?_;exact Al [0,2,3,7,21,31,33,38] [888888,2,500,501,3,721,722]
   apply Ap (i:=0);rfl;rfl;rfl
   · intro w9;refine Bq Da ?_;exact Aa Aw
   apply Ar (i:=6);rfl;rfl;rfl
   · intro w9;refine Bt (Ug (m:=8) U U U (.tm U) U (.yes (.const U) (fun _=>by first|rfl|omega|(simp<;>omega))) ZA ty3 (by simp;omega)) U ?_;exact Al [0,2,3,7,21,31,39] [888888,2,500,501,3,721,722]
   apply Ar (i:=5);rfl;rfl;rfl
   · intro w9;refine Ac (C2 (nid:=721) (hid:=722) U (.no U) U (.tm U) U (BP _ (Ao hr0)) Cc U U U U U U) U ?_;exact Al [0,2,3,7,21,31,34,38] [888888,2,500,501,3,721,722]
   apply Ap (i:=1);rfl;rfl;rfl
   · intro w9;refine Bb Gh ?_;exact Aa Aw
   apply Ar (i:=6);rfl;rfl;rfl
   · intro w9;refine Bt (Ug (m:=8) U U U (.tm U) U (.yes (.const U) (fun _=>by first|rfl|omega|(simp<;>omega))) ZA ty3 (by simp;omega)) U ?_;exact Al [0,2,3,7,21,31,33,39] [888888,2,500,501,3,721,722]
   apply Ap (i:=0);rfl;rfl;rfl
   · intro w9;refine Bq Da ?_;exact Aa Aw
   apply Ar (i:=6);rfl;rfl;rfl
   · intro w9;refine Bt (Ug (m:=8) U U U (.tm U) U (.yes (.const U) (fun _=>by first|rfl|omega|(simp<;>omega))) ZA ty3 (by simp;omega)) U ?_;exact Al [0,2,3,7,21,31,34,39] [888888,2,500,501,3,721,722]
   apply Ap (i:=1);rfl;rfl;rfl
   · intro w9;refine Bb Gh ?_;exact Aa Aw
   apply Ar (i:=7);rfl;rfl;rfl
   · intro w9;refine Ac (A3 U (.no U) U (.tm U) U (.const U) ZB Cc (fun _=>⟨by omega,BP _ (Ao hr0)⟩)) U ?_;exact Al [0,2,3,7,21,31,39,40] [888888,2,500,501,3,721,722]
   apply Ar (i:=8);rfl;rfl;rfl
   · intro w9;refine Cu (C0 U U U (.tm U) U (.tm U) U (BP _ (Ao hr0)) Cc U U U U) ?_;exact Al [0,2,3,7,21,31] [888888,2,500,501,3,722]
   refine Dag.fin (k:=19) U ?_;refine Aa (Af (Bb B6 ?_));refine A4 B6 ?_;refine Aa (Aq ?_);apply Ev.mk (x:=⟨z5.Start,z5.Accept,z5.Next.set 0 (r0.take 8)⟩) rfl
   case h=>
    refine Res.one U (.cell U U B6 U U .nil) U ?_
    (refine congrArg (fun r=>[V0.agg [.v (.int .i64 z5.Start),.sl 1 (z5.Accept.map Ey),.sl 1 r]]) ?_;simp [ZF,ZG,ZH,DV,AQ])
   case hp=>exact trivial
 try simp at h31
 refine Am (Af (Bb B6 ?_));refine A4 B6 ?_;refine Aa (Aq ?_);apply Ev.mk (x:=z5) rfl
 case h=>
  refine Res.one U (.cell U U B6 U U .nil) U ?_
  rfl
 case hp=>exact trivial
theorem PO:FnD Z9 51 [] (fun _:AC×AA=>True) WY:=by
 refine FnD.walk ZK U (by kernel_rfl) ZL U (fun g=>rfl) fun w0 g=>?_
 refine Af (A6 (Bd 2 U U U OF U U U) U ?_);refine A6 (Bd 3 U U U JZ U U U) U ?_;refine Aa (Af (Ab ?_));refine Bn (Bo 700 (KR) U U U (.tm U) U U .nil (fun _=>rfl) (fun _=>rfl)) ?_
 rintro _ ⟨z7,hz7,rfl⟩
 try dsimp only at hz7
 refine A6 (Bd 4 U U U OF U U U) U ?_;refine A4 B7 ?_;refine Aa (Af (Ab ?_));refine Bn (Bo 900 (Mo) U U U (.tm U) U U .nil (fun _=>rfl) (fun _=>rfl)) ?_
 rintro _ ⟨z9,hz9,rfl⟩
 try dsimp only at hz9
 refine A6 (Bd 5 U U U JZ U U U) U ?_;refine A4 B6 ?_;refine Aa (Ae (Af (Ab ?_)));refine Bn (Bo 1100 (EF _) U U U (.tm U) U U (.cons (.const U) U .nil) (fun _=>rfl) (fun _=>rfl)) ?_
 rintro _ ⟨z11,hz11,rfl⟩
 try dsimp only at hz11
 refine Aa (Ai (.tm U) (fun h11=>?_) (fun h11=>?_))
 · try simp at h11
   refine As (Ay [0,2,3,4,5] [888888,2,3,700,701,4,900,901,5]) ?_;refine Ad (Ab ?_);refine Bn (Bo 1300 (Sz) U U U (.tm U) U U .nil (fun _=>rfl) (fun _=>rfl)) ?_
   rintro _ ⟨z13,hz13,rfl⟩
   try dsimp only at hz13
   refine A4 B7 ?_;refine Aa (Ae (Af (Ab ?_)));refine Bn (Bo 1500 (EF _) U U U (.tm U) U U (.cons (.const U) U .nil) (fun _=>rfl) (fun _=>rfl)) ?_
   rintro _ ⟨z15,hz15,rfl⟩
   try dsimp only at hz15
   refine Aa (Ai (.tm U) (fun h15=>?_) (fun h15=>?_))
   · try simp at h15
     refine Ad (Ab ?_);refine Bn (Bo 1700 (Mp) U U U (.tm U) U U .nil (fun _=>rfl) (fun _=>rfl)) ?_
     rintro _ ⟨z17,hz17,rfl⟩
     try dsimp only at hz17
     refine A4 B6 ?_;refine Aa (Ae (As (Ay [0,2,3,4,5] [888888,2,3,700,701,4,900,901,5,1300,1301,1700,1701]) ?_));refine AW.dagn 4 6 [[],[0],[1],[0,1],[0,2],[0,1,2],[0,1,2,3]] [(0,0,1),(0,1,2),(1,1,3),(2,0,3),(1,2,4),(3,2,5),(4,1,5),(5,3,6)] (by kernel_rfl) (by kernel_rfl) (by kernel_rfl) ?_;apply Ar (i:=0)
     case ha|ho|hb=>rfl
     case hE=>
      intro w9;refine Bb B7 ?_;exact Al [0,2,3,4,5,18] [888888,2,3,700,701,4,900,901,5,1300,1301,1700,1701]
     apply Ar (i:=1);rfl;rfl;rfl
     · intro w9;refine Bb B6 ?_;exact Al [0,2,3,4,5,19] [888888,2,3,700,701,4,900,901,5,1300,1301,1700,1701]
     apply Ar (i:=1);rfl;rfl;rfl
     · intro w9;refine Bb B6 ?_;exact Al [0,2,3,4,5,18,19] [888888,2,3,700,701,4,900,901,5,1300,1301,1700,1701]
     apply Ap (i:=0);rfl;rfl;rfl
     · intro w9;refine Bb B7 ?_;exact Aa Aw
     apply Ar (i:=2);rfl;rfl;rfl
     · intro w9;refine A4 B7 ?_;exact Al [0,2,3,4,5] [888888,2,3,700,701,4,900,901,5,1300,1301,1700,1701]
     apply Ar (i:=2);rfl;rfl;rfl
     · intro w9;refine A4 B7 ?_;exact Al [0,2,3,4,5,19] [888888,2,3,700,701,4,900,901,5,1300,1301,1700,1701]
     apply Ap (i:=1);rfl;rfl;rfl
     · intro w9;refine Bb B6 ?_;exact Aa Aw
     apply Ar (i:=3);rfl;rfl;rfl
     · intro w9;refine A4 B6 ?_;exact Al [0,2,3,4,5] [888888,2,3,700,701,4,900,901,5,1300,1301,1700,1701]
     refine Dag.fin (k:=6) U ?_;refine Aa (Aq ?_);apply Ev.mk (x:=(z13,z17)) rfl
     case h=>
      refine Cd U (.cell U U B7 U U (.cell U U B6 U U .nil)) U ?_ (by simp)
      rfl
     case hp=>exact trivial
   try simp at h15
   refine Am (Ae (AW.dagn 4 6 [[],[0],[1],[0,1],[0,2],[0,1,2],[0,1,2,3]] [(0,0,1),(0,1,2),(1,1,3),(2,0,3),(1,2,4),(3,2,5),(4,1,5),(5,3,6)] (by kernel_rfl) (by kernel_rfl) (by kernel_rfl) ?_));apply Ar (i:=0)
   case ha|ho|hb=>rfl
   case hE=>
    intro w9;refine Bb B7 ?_;exact Al [0,2,3,4,5,15,18] [888888,2,3,700,701,4,900,901,5,1300,1301]
   apply Ar (i:=1);rfl;rfl;rfl
   · intro w9;refine Bb B6 ?_;exact Al [0,2,3,4,5,15,19] [888888,2,3,700,701,4,900,901,5,1300,1301]
   apply Ar (i:=1);rfl;rfl;rfl
   · intro w9;refine Bb B6 ?_;exact Al [0,2,3,4,5,15,18,19] [888888,2,3,700,701,4,900,901,5,1300,1301]
   apply Ap (i:=0);rfl;rfl;rfl
   · intro w9;refine Bb B7 ?_;exact Aa Aw
   apply Ar (i:=2);rfl;rfl;rfl
   · intro w9;refine A4 B7 ?_;exact Al [0,2,3,4,5,15] [888888,2,3,700,701,4,900,901,5,1300,1301]
   apply Ar (i:=2);rfl;rfl;rfl
   · intro w9;refine A4 B7 ?_;exact Al [0,2,3,4,5,15,19] [888888,2,3,700,701,4,900,901,5,1300,1301]
   apply Ap (i:=1);rfl;rfl;rfl
   · intro w9;refine Bb B6 ?_;exact Aa Aw
   apply Ar (i:=3);rfl;rfl;rfl
   · intro w9;refine A4 B6 ?_;exact Al [0,2,3,4,5,15] [888888,2,3,700,701,4,900,901,5,1300,1301]
   refine Dag.fin (k:=6) U ?_;refine Aa (Aq ?_);apply Ev.mk (x:=(z13,z9)) rfl
   case h=>
    refine Cd U (.cell U U B7 U U (.cell U U B6 U U .nil)) U ?_ (by simp)
    rfl
   case hp=>exact trivial
 try simp at h11
 refine Am (Ae (Ae (As (Ay [0,2,3,4,5] [888888,2,3,700,701,4,900,901,5]) ?_)));refine Ad (Ab ?_);refine Bn (Bo 1500 (EF _) U U U (.tm U) U U (.cons (.const U) U .nil) (fun _=>rfl) (fun _=>rfl)) ?_
 rintro _ ⟨z15,hz15,rfl⟩
 try dsimp only at hz15
 refine Aa (Ai (.tm U) (fun h15=>?_) (fun h15=>?_))
 · try simp at h15
   refine Ad (Ab ?_);refine Bn (Bo 1700 (Mp) U U U (.tm U) U U .nil (fun _=>rfl) (fun _=>rfl)) ?_
   rintro _ ⟨z17,hz17,rfl⟩
   try dsimp only at hz17
   refine A4 B6 ?_;refine Aa (Ae (AW.dagn 4 6 [[],[0],[1],[0,1],[0,2],[0,1,2],[0,1,2,3]] [(0,0,1),(0,1,2),(1,1,3),(2,0,3),(1,2,4),(3,2,5),(4,1,5),(5,3,6)] (by kernel_rfl) (by kernel_rfl) (by kernel_rfl) ?_));apply Ar (i:=0)
   case ha|ho|hb=>rfl
   case hE=>
    intro w9;refine Bb B7 ?_;exact Al [0,2,3,4,5,15,18] [888888,2,3,700,701,4,900,901,5,1700,1701]
   apply Ar (i:=1);rfl;rfl;rfl
   · intro w9;refine Bb B6 ?_;exact Al [0,2,3,4,5,15,19] [888888,2,3,700,701,4,900,901,5,1700,1701]
   apply Ar (i:=1);rfl;rfl;rfl
   · intro w9;refine Bb B6 ?_;exact Al [0,2,3,4,5,15,18,19] [888888,2,3,700,701,4,900,901,5,1700,1701]
   apply Ap (i:=0);rfl;rfl;rfl
   · intro w9;refine Bb B7 ?_;exact Aa Aw
   apply Ar (i:=2);rfl;rfl;rfl
   · intro w9;refine A4 B7 ?_;exact Al [0,2,3,4,5,15] [888888,2,3,700,701,4,900,901,5,1700,1701]
   apply Ar (i:=2);rfl;rfl;rfl
   · intro w9;refine A4 B7 ?_;exact Al [0,2,3,4,5,15,19] [888888,2,3,700,701,4,900,901,5,1700,1701]
   apply Ap (i:=1);rfl;rfl;rfl
   · intro w9;refine Bb B6 ?_;exact Aa Aw
   apply Ar (i:=3);rfl;rfl;rfl
   · intro w9;refine A4 B6 ?_;exact Al [0,2,3,4,5,15] [888888,2,3,700,701,4,900,901,5,1700,1701]
   refine Dag.fin (k:=6) U ?_;refine Aa (Aq ?_);apply Ev.mk (x:=(z7,z17)) rfl
   case h=>
    refine Cd U (.cell U U B7 U U (.cell U U B6 U U .nil)) U ?_ (by simp)
    rfl
   case hp=>exact trivial
 try simp at h15
 refine Am (Ae (AW.dagn 4 6 [[],[0],[1],[0,1],[0,2],[0,1,2],[0,1,2,3]] [(0,0,1),(0,1,2),(1,1,3),(2,0,3),(1,2,4),(3,2,5),(4,1,5),(5,3,6)] (by kernel_rfl) (by kernel_rfl) (by kernel_rfl) ?_));apply Ar (i:=0)
 case ha|ho|hb=>rfl
 case hE=>
  intro w9;refine Bb B7 ?_;exact Al [0,2,3,4,5,15,18] [888888,2,3,700,701,4,900,901,5]
 apply Ar (i:=1);rfl;rfl;rfl
 · intro w9;refine Bb B6 ?_;exact Al [0,2,3,4,5,15,19] [888888,2,3,700,701,4,900,901,5]
 apply Ar (i:=1);rfl;rfl;rfl
 · intro w9;refine Bb B6 ?_;exact Al [0,2,3,4,5,15,18,19] [888888,2,3,700,701,4,900,901,5]
 apply Ap (i:=0);rfl;rfl;rfl
 · intro w9;refine Bb B7 ?_;exact Aa Aw
 apply Ar (i:=2);rfl;rfl;rfl
 · intro w9;refine A4 B7 ?_;exact Al [0,2,3,4,5,15] [888888,2,3,700,701,4,900,901,5]
 apply Ar (i:=2);rfl;rfl;rfl
 · intro w9;refine A4 B7 ?_;exact Al [0,2,3,4,5,15,19] [888888,2,3,700,701,4,900,901,5]
 apply Ap (i:=1);rfl;rfl;rfl
 · intro w9;refine Bb B6 ?_;exact Aa Aw
 apply Ar (i:=3);rfl;rfl;rfl
 · intro w9;refine A4 B6 ?_;exact Al [0,2,3,4,5,15] [888888,2,3,700,701,4,900,901,5]
 refine Dag.fin (k:=6) U ?_;refine Aa (Aq ?_);apply Ev.mk (x:=(z7,z9)) rfl
 case h=>
  refine Cd U (.cell U U B7 U U (.cell U U B6 U U .nil)) U ?_ (by simp)
  rfl
 case hp=>exact trivial
theorem GK (bs:List Int) (hb:∀ n∈bs,0≤n∧n<256):FrX Z9 21 [.one (.sl 1 (byR bs))] (fun z:AC×AA×Int=> -1≤z.2.2∧z.2.2≤5) X6:=by
 refine FrX.walk ZM rfl (by kernel_rfl) ZN rfl fun w0=>?_
 refine Af (A6 (Bd 2 U U U OF U U U) U ?_);refine A6 (Bd 3 U U U JZ U U U) U ?_;refine An ?_;refine Aa (Af (Ab ?_));refine Bn (XH 888888 (Up) U U U (.tm U) (by assumption) U) ?_
 rintro _ ⟨g,rfl⟩
 refine Ah ?_;refine Aa (Af (Ab ?_));refine Bn (Bo 1200 (PO) U U U (.tm U) U U .nil (fun _=>rfl) (fun _=>rfl)) ?_
 rintro _ ⟨z12,hz12,rfl⟩
 try dsimp only at hz12
 refine Ac (Dd U (.no U) U U fun _=>rfl) U ?_;refine Ac (Bk U (.no U) U U (fun _=>rfl) U) U ?_;refine Ac (Bk U (.no U) U U (fun _=>rfl) U) U ?_;refine A6 (Bd 6 U U U OF U U U) U ?_;refine A6 (Bd 7 U U U JZ U U U) U ?_;refine A4 B7 ?_;refine Bv (Ay [0,2,3,4,5,6,7,14] [2,3,888888,1200,1201,1202,1203,6,7]) ?_;refine A4 B6 ?_;refine Aa (Ae (As (Ay [0,2,3,4,5,6,7,14] [2,3,888888,1200,1201,1202,1203,6,7]) ?_));apply Cr (N:=5) (k:=2) (Hs:=[0,1,2]) (ms:=[[],[3],[3,4]]) (es:=[(0,3,1),(1,4,2)]) (σ1:=_) (SM:=⟨_,[(0,_),(2,_),(3,_),(4,_),(5,_),(6,_),(7,_),(14,_),(15,_),(16,_),(17,_)],[(3,_),(888888,_),(1200,_),(1201,_),(1202,_),(1203,_),(6,_),(7,_)]⟩)
 case hm=>kernel_rfl
 case hB=>kernel_rfl
 case hP=>kernel_rfl
 case hL=>kernel_rfl
 case hN=>rfl
 case hpre=>
  apply Ax (P:=Z9) 0 rfl ((by exact Be rfl (.no rfl) rfl (.tm rfl) rfl B7 rfl rfl)) (by exact BM.load (x:=.tmp 6) (.tm rfl) rfl B7 rfl rfl) rfl rfl rfl;apply Ax (P:=Z9) 1 rfl ((by exact Be rfl (.no rfl) rfl (.tm rfl) rfl B6 rfl rfl)) (by exact BM.load (x:=.tmp 7) (.tm rfl) rfl B6 rfl rfl) rfl rfl rfl;apply Ax (P:=Z9) 2 rfl (Bh rfl (.no rfl) rfl (.tm rfl)) (by exact BM.slot (t:=5) rfl) rfl rfl rfl;exact EC.nil
 case hS=>exact Ba
 case hH=>
  refine AX.lq B7 ?_;refine AX.lq B6 ?_;refine AX.mv ?_
  trivial
 apply Dh.drw0 (i:=3)
 case ha=>rfl
 case ho=>rfl
 case hE=>
  intro  hp
  obtain _:=hp
  exact Bo 1800 (PL) rfl rfl rfl (.tm rfl) rfl rfl .nil (fun _=>rfl) (fun _=>rfl)
 case hb=>rfl
 case hL=>
  intro  z18 hp hy;exact CV.eq (Ay [0,2,3,4,5,6,7,14,15,16,17,18] [2,3,888888,1200,1201,1202,1203,6,7]) U
 case hS=>intros;exact Ba
 apply Dh.new1 (i:=4);rfl;rfl;rfl
 · intro w9 z18 hp
   obtain⟨_,hz18⟩:=hp
   refine A4 B7 ?_;exact Al [0,2,3,4,5,6,7,14,15,16,17,18] [2,3,888888,1200,1201,1202,1203,6,7]
 intros;exact Ba
 refine Dh.fin1 (k:=2) rfl ?_;intro z18 hp
 obtain⟨_,hz18⟩:=hp
 refine A4 B6 ?_;refine Bv (Ay [0,2,3,4,5,6,7,18] [2,3,888888,1200,1201,1202,1203,6,7]) ?_;refine Ah ?_;refine Aa (Aq ?_);apply ERRes.mk (x:=(z12.1,z12.2,z18))
 case h=>
  refine LZ.many U (.cell U U B7 U U (.cell U U B6 U U (.tmp U .nil))) U ?_ (by simp)
  rfl
 case hp=>exact hz18
end Go.Q
