import Derived.Test.YtbecibmlbiebeaaGreatB150xb
set_option linter.unusedVariables false
set_option linter.unusedSimpArgs false
set_option maxHeartbeats 1000000
set_option maxRecDepth 100000
namespace Go.Proofs.YtbecibmlbiebeaaGreat
open Go.RowKit Go.Q Go.D
theorem specl11AnyD:FnD Tryz.prog 146 [] (fun _:TAutomaton=>True) (fun a=>.a (.agg (cAutomaton a))):=by
 refine FnD.walk Tryz.func146 U (by kernel_rfl) Tryz.ntmps146 U (fun g=>rfl) fun w0 g=>?_
 refine Af (A6 (Bi 2 U U U in36 U U U) U ?_);refine Aa (Af (Ab ?_));refine Bd (Bf 500 (specl11AutD) U U U (.tm U) U U .nil (fun _=>rfl) (fun _=>rfl)) ?_
 rintro _ ⟨z5,hz5,rfl⟩
 try dsimp only at hz5
 refine A6 (Bi 3 U U U in36 U U U) U ?_;refine Az Bt ?_;refine Aa (Ae (Af (Ab ?_)));refine Bd (Bf 700 (specl1Below _) U U U (.tm U) U U (.cons (.const U) U .nil) (fun _=>rfl) (fun _=>rfl)) ?_
 rintro _ ⟨z7,hz7,rfl⟩
 try dsimp only at hz7
 refine Aa (AW.block (Af (Bs ?_)));refine Ag ?_;refine Aa (Ai (.tm U) (fun h8=>?_) (fun h8=>?_))
 · try simp at h8
   refine Ac (Ab ?_);refine Ad (B7 (xs:=[.const (.int .i64 (-1)),.const (.int .i64 (12)),.const (.int .i64 (1))]) (rows:=[cInt (-1),cInt 12,cInt 1]) U U U (.cons (.const U) U U (.cons (.const U) U U (.cons (.const U) U U .nil))) Tryz.underlying40 in3 U U (U)) U ?_;refine Bd (Bf 1200 (specl1PickInt [-1,12,1] (by decide)) U U U (.tm U) U U (.cons (.tm U) U .nil) (fun _=>rfl) (fun _=>rfl)) ?_
   rintro _ ⟨z12,hz12,rfl⟩
   try dsimp only at hz12
   refine Br fl36_0 ?_;refine Az ty3 ?_;refine Aa (Ae (Ar (Av [0,2,3,7] [888888,2,500,501,3]) ?_));refine Ac (A9 Bt ?_);refine Az Bt ?_;refine Aa (Am ?_);apply DRes.mk (x:=⟨z12,z5.Accept,z5.Next⟩) rfl
   case h=>
    refine Res.one U (.cell U U Bt U U .nil) U ?_
    rfl
   case hp=>exact trivial
 try simp at h8
 refine Af (Bs ?_);refine Ag ?_;refine Aa (Ai (.tm U) (fun h14=>?_) (fun h14=>?_))
 · try simp at h14
   have hac:=hz5.2.2
   refine Ar (Av [0,2,3,7] [888888,2,500,501,3]) ?_;refine Ac (Br C0 ?_);refine A9 ty33 ?_;refine Ad (B7 (xs:=[.const (.bool true)]) (rows:=[cBool true]) U U U (.cons (.const U) U U .nil) Tryz.underlying33 in4 U U (U)) U ?_;refine Bl (Bw U U U (.tm U) U (.tm U) (by exact .t) (by rfl) Tryz.underlying33 in4 U (by (simp [chunk];omega)) (by (unfold maxLen;simp [chunk];omega))) U ?_;refine Bq (Av [0,2,3,7,19] [888888,2,500,501,3]) ?_;refine Br C0 ?_;refine Az ty33 ?_;refine Aa (Af (A9 Bt ?_));refine Az Bt ?_;refine Aa (Am ?_);apply DRes.mk (x:=⟨z5.Start,z5.Accept++[true],z5.Next⟩) rfl
   case h=>
    refine Res.one U (.cell U U Bt U U .nil) U ?_
    (refine congrArg (fun r=>[V0.agg [.v (.int .i64 z5.Start),.sl 1 r,.sl 1 (z5.Next.map cIntS)]]) ?_;rw [List.map_append];rfl)
   case hp=>exact trivial
 try simp at h14
 refine Ae (Ar (Av [0,2,3,7] [888888,2,500,501,3]) ?_);refine Ac (Bs ?_);refine Ag ?_;refine Aa (Ai (.tm U) (fun h21=>?_) (fun h21=>?_))
 · try simp at h21
   obtain⟨r0,hr0⟩:∃ ξ,z5.Next[0]?=some ξ:=⟨_,List.getElem?_eq_getElem (by have:=hz5.1;omega)⟩
   have hrl:=hz5.2.1 r0 (List.mem_of_getElem? hr0)
   obtain⟨x0,hx0⟩:∃ ξ,r0[0]?=some ξ:=⟨_,List.getElem?_eq_getElem (by omega)⟩
   refine AW.takeR (id:=501) (i:=0) (p:=0) 721 722 U (Al hr0) U (fun _=>rfl) (fun _=>rfl) fun c721=>?_
   refine Ar (Av [0,2,3,7,21,22] [888888,2,500,501,3,721,722]) ?_;apply Cg (N:=7) (k:=8) (Hs:=[0,1,4]) (ms:=[[],[2],[5],[2,3],[2,5],[5,6],[2,3,5],[2,5,6],[2,3,5,6]]) (es:=[(0,2,1),(0,5,2),(1,3,3),(1,5,4),(2,2,4),(2,6,5),(3,5,6),(4,3,6),(4,6,7),(5,2,7),(6,6,8),(7,3,8)]) (σ1:=_) (SM:=⟨_,[(0,_),(2,_),(3,_),(7,_),(21,_),(22,_),(23,_),(24,_),(27,_)],[(888888,_),(2,_),(500,_),(501,_),(3,_),(721,_),(722,_)]⟩)
   case hm=>kernel_rfl
   case hB=>kernel_rfl
   case hP=>kernel_rfl
   case hL=>kernel_rfl
   case hN=>rfl
   case hpre=>
    apply Ao (P:=Tryz.prog) 0 rfl ((Ba rfl (.no rfl) rfl (.tm rfl) C4)) (by exact .pp) rfl rfl rfl;apply Ao (P:=Tryz.prog) 1 rfl ((by exact Bk rfl (.no rfl) rfl (.tm rfl) rfl ty34 rfl rfl)) (by exact HasV.load (x:=.tmp 23) (.tm rfl) rfl ty34 rfl rfl) rfl rfl rfl;apply Ao (P:=Tryz.prog) 4 rfl (Bh rfl (.no rfl) rfl (.tm rfl)) (by exact HasV.slot (t:=0) rfl) rfl rfl rfl;exact PreOk.nil
   case hS=>exact A5
   case hH=>
    refine LocsH.fq C4 ?_;refine LocsH.lq ty34 ?_;refine LocsH.mv ?_
    trivial
   apply Dh.new0 (i:=2);rfl;rfl;rfl
   · intro w9 _;refine Ad (by exact Ax U (.no U) U (.tm U) U (.const U) Tryz.underlying34 Bz (fun _=>⟨by omega,set_at _ (Al hr0)⟩)) U ?_;exact An [0,2,3,7,21,22,23,24,25,27] [888888,2,500,501,3,721,722]
   intros;exact A5
   apply Dh.new0 (i:=5);rfl;rfl;rfl
   · intro w9 _;refine Ad (B7 (xs:=[.const (.int .i64 (-2)),.const (.int .i64 (12)),.const (.int .i64 (0))]) (rows:=[cInt (-2),cInt 12,cInt 0]) U U U (.cons (.const U) U U (.cons (.const U) U U (.cons (.const U) U U .nil))) Tryz.underlying40 in3 U U (U)) U ?_;exact An [0,2,3,7,21,22,23,24,27,28] [888888,2,500,501,3,721,722]
   intros;exact A5
   apply Dh.new0 (i:=3);rfl;rfl;rfl
   · intro w9 _;refine Ad (R_load_hdr (nid:=721) (hid:=722) U (.no U) U (.tm U) U (set_at _ (Al hr0)) Bz U U U U U U) U ?_;exact An [0,2,3,7,21,22,23,24,26,27] [888888,2,500,501,3,721,722]
   intros;exact A5
   apply Dh.new0 (i:=5);rfl;rfl;rfl
   · intro w9 _;refine Ad (B7 (xs:=[.const (.int .i64 (-2)),.const (.int .i64 (12)),.const (.int .i64 (0))]) (rows:=[cInt (-2),cInt 12,cInt 0]) U U U (.cons (.const U) U U (.cons (.const U) U U (.cons (.const U) U U .nil))) Tryz.underlying40 in3 U U (U)) U ?_;exact An [0,2,3,7,21,22,23,24,25,27,28] [888888,2,500,501,3,721,722]
   intros;exact A5
   apply Dh.old0 (i:=2);rfl;rfl;rfl
   · intro w9 _;refine Ad (Ax U (.no U) U (.tm U) U (.const U) Tryz.underlying34 Bz (fun _=>⟨by omega,set_at _ (Al hr0)⟩)) U ?_;exact Aa A4
   apply Dh.drw0 (i:=6)
   case ha=>rfl
   case ho=>rfl
   case hE=>
    intro  hp
    obtain _:=hp
    exact Bf 2900 (specl1PickInt [-2,12,0] (by decide)) rfl rfl rfl (.tm rfl) rfl rfl (.cons (.tm rfl) rfl .nil) (fun _=>rfl) (fun _=>rfl)
   case hb=>rfl
   case hL=>
    intro  z29 hp hy;exact EndQ.eq (Av [0,2,3,7,21,22,23,24,27,29] [888888,2,500,501,3,721,722]) U
   case hS=>intros;exact A5
   apply Dh.new0 (i:=5);rfl;rfl;rfl
   · intro w9 _;refine Ad (B7 (xs:=[.const (.int .i64 (-2)),.const (.int .i64 (12)),.const (.int .i64 (0))]) (rows:=[cInt (-2),cInt 12,cInt 0]) U U U (.cons (.const U) U U (.cons (.const U) U U (.cons (.const U) U U .nil))) Tryz.underlying40 in3 U U (U)) U ?_;exact An [0,2,3,7,21,22,23,24,26,27,28] [888888,2,500,501,3,721,722]
   intros;exact A5
   apply Dh.old0 (i:=3);rfl;rfl;rfl
   · intro w9 _;refine Ad (R_load_hdr (nid:=721) (hid:=722) U (.no U) U (.tm U) U (set_at _ (Al hr0)) Bz U U U U U U) U ?_;exact Aa A4
   apply Dh.drw0 (i:=6)
   case ha=>rfl
   case ho=>rfl
   case hE=>
    intro  hp
    obtain _:=hp
    exact Bf 2900 (specl1PickInt [-2,12,0] (by decide)) rfl rfl rfl (.tm rfl) rfl rfl (.cons (.tm rfl) rfl .nil) (fun _=>rfl) (fun _=>rfl)
   case hb=>rfl
   case hL=>
    intro  z29 hp hy;exact EndQ.eq (Av [0,2,3,7,21,22,23,24,25,27,29] [888888,2,500,501,3,721,722]) U
   case hS=>intros;exact A5
   apply Dh.old1 (i:=2);rfl;rfl;rfl
   · intro w9 z29 hp
     obtain⟨_,hz29⟩:=hp
     refine Ad (Ax U (.no U) U (.tm U) U (.const U) Tryz.underlying34 Bz (fun _=>⟨by omega,set_at _ (Al hr0)⟩)) U ?_;exact Aa A4
   apply Dh.drw0 (i:=6)
   case ha=>rfl
   case ho=>rfl
   case hE=>
    intro  hp
    obtain _:=hp
    exact Bf 2900 (specl1PickInt [-2,12,0] (by decide)) rfl rfl rfl (.tm rfl) rfl rfl (.cons (.tm rfl) rfl .nil) (fun _=>rfl) (fun _=>rfl)
   case hb=>rfl
   case hL=>
    intro  z29 hp hy;exact EndQ.eq (Av [0,2,3,7,21,22,23,24,26,27,29] [888888,2,500,501,3,721,722]) U
   case hS=>intros;exact A5
   apply Dh.old1 (i:=3);rfl;rfl;rfl
   · intro w9 z29 hp
     obtain⟨_,hz29⟩:=hp
     refine Ad (R_load_hdr (nid:=721) (hid:=722) U (.no U) U (.tm U) U (set_at _ (Al hr0)) Bz U U U U U U) U ?_;exact Aa A4
   refine Dh.fin1 (k:=8) rfl ?_;intro z29 hp
   obtain⟨_,hz29⟩:=hp
   refine Ad (Ax U (.no U) U (.tm U) U (.const U) Tryz.underlying40 ty3 (fun _=>⟨by omega,Al hx0⟩)) U ?_;refine Ch (Cn U U U (.tm U) U (.tm U) U (Al hx0) ty3 U U U U) ?_;refine Aa (Ar (Le.putR (nid:=721) (hid:=722) (id:=501) (i:=0) (p:=0) U U U (set_at _ (Al hr0)) U U U U) ?_);refine Ae (Ar (Av [0,2,3,7] [888888,2,500,501,3]) ?_);refine Ac (A9 Bt ?_);refine Az Bt ?_;refine Aa (Am ?_);apply DRes.mk (x:=⟨z5.Start,z5.Accept,z5.Next.set 0 (r0.set 0 z29)⟩) rfl
   case h=>
    refine Res.one U (.cell U U Bt U U .nil) U ?_
    (refine congrArg (fun r=>[V0.agg [.v (.int .i64 z5.Start),.sl 1 (z5.Accept.map cBool),.sl 1 r]]) ?_;simp [List.set_set,List.map_set,List.map_take,cIntS,cInt])
   case hp=>exact trivial
 try simp at h21
 refine Af (Bs ?_);refine Ag ?_;refine Aa (Ai (.tm U) (fun h31=>?_) (fun h31=>?_))
 · try simp at h31
   obtain⟨r0,hr0⟩:∃ ξ,z5.Next[0]?=some ξ:=⟨_,List.getElem?_eq_getElem (by have:=hz5.1;omega)⟩
   have hrl:=hz5.2.1 r0 (List.mem_of_getElem? hr0)
   refine AW.takeR (id:=501) (i:=0) (p:=0) 721 722 U (Al hr0) U (fun _=>rfl) (fun _=>rfl) fun c721=>?_
   refine AW.dagn 9 19 [[],[0],[2],[0,1],[0,2],[2,3],[0,1,2],[0,2,3],[2,3,4],[0,1,2,3],[0,2,3,4],[2,3,4,5],[0,1,2,3,4],[0,2,3,4,5],[2,3,4,5,6],[0,1,2,3,4,5],[0,2,3,4,5,6],[0,1,2,3,4,5,6],[0,1,2,3,4,5,6,7],[0,1,2,3,4,5,6,7,8]] [(0,0,1),(0,2,2),(1,1,3),(1,2,4),(2,0,4),(2,3,5),(3,2,6),(4,1,6),(4,3,7),(5,0,7),(5,4,8),(6,3,9),(7,1,9),(7,4,10),(8,0,10),(8,5,11),(9,4,12),(10,1,12),(10,5,13),(11,0,13),(11,6,14),(12,5,15),(13,1,15),(13,6,16),(14,0,16),(15,6,17),(16,1,17),(17,7,18),(18,8,19)] (by kernel_rfl) (by kernel_rfl) (by kernel_rfl) ?_;apply Ay (i:=0)
   case ha|ho|hb=>rfl
   case hE=>
    intro w9;refine Br C4 ?_;exact An [0,2,3,7,21,31,33] [888888,2,500,501,3,721,722]
   apply Ay (i:=2);rfl;rfl;rfl
   · intro w9;refine Br C4 ?_;exact An [0,2,3,7,21,31,35] [888888,2,500,501,3,721,722]
   apply Ay (i:=1);rfl;rfl;rfl
   · intro w9;refine A9 ty34 ?_;exact An [0,2,3,7,21,31,34] [888888,2,500,501,3,721,722]
   apply Ay (i:=2);rfl;rfl;rfl
   · intro w9;refine Br C4 ?_;exact An [0,2,3,7,21,31,33,35] [888888,2,500,501,3,721,722]
   apply A3 (i:=0);rfl;rfl;rfl
   · intro w9;refine Br C4 ?_;exact Aa A4
   apply Ay (i:=3);rfl;rfl;rfl
   · intro w9;refine A9 ty34 ?_;exact An [0,2,3,7,21,31,36] [888888,2,500,501,3,721,722]
   apply Ay (i:=2);rfl;rfl;rfl
   · intro w9;refine Br C4 ?_;exact An [0,2,3,7,21,31,34,35] [888888,2,500,501,3,721,722]
   apply A3 (i:=1);rfl;rfl;rfl
   · intro w9;refine A9 ty34 ?_;exact Aa A4
   apply Ay (i:=3);rfl;rfl;rfl
   · intro w9;refine A9 ty34 ?_;exact An [0,2,3,7,21,31,33,36] [888888,2,500,501,3,721,722]
   apply A3 (i:=0);rfl;rfl;rfl
   · intro w9;refine Br C4 ?_;exact Aa A4
   apply Ay (i:=4);rfl;rfl;rfl
   · intro w9;refine Ad (Ax U (.no U) U (.tm U) U (.const U) Tryz.underlying34 Bz (fun _=>⟨by omega,set_at _ (Al hr0)⟩)) U ?_;exact An [0,2,3,7,21,31,37] [888888,2,500,501,3,721,722]
   apply Ay (i:=3);rfl;rfl;rfl
   · intro w9;refine A9 ty34 ?_;exact An [0,2,3,7,21,31,34,36] [888888,2,500,501,3,721,722]
   apply A3 (i:=1);rfl;rfl;rfl
   · intro w9;refine A9 ty34 ?_;exact Aa A4
   apply Ay (i:=4);rfl;rfl;rfl
   · intro w9;refine Ad (Ax U (.no U) U (.tm U) U (.const U) Tryz.underlying34 Bz (fun _=>⟨by omega,set_at _ (Al hr0)⟩)) U ?_;exact An [0,2,3,7,21,31,33,37] [888888,2,500,501,3,721,722]
   apply A3 (i:=0);rfl;rfl;rfl
   · intro w9;refine Br C4 ?_;exact Aa A4
   apply Ay (i:=5);rfl;rfl;rfl
   · intro w9;refine Ad (R_load_hdr (nid:=721) (hid:=722) U (.no U) U (.tm U) U (set_at _ (Al hr0)) Bz U U U U U U) U ?_;exact An [0,2,3,7,21,31,38] [888888,2,500,501,3,721,722]
   apply Ay (i:=4);rfl;rfl;rfl
   · intro w9;refine Ad (Ax U (.no U) U (.tm U) U (.const U) Tryz.underlying34 Bz (fun _=>⟨by omega,set_at _ (Al hr0)⟩)) U ?_;exact An [0,2,3,7,21,31,34,37] [888888,2,500,501,3,721,722]
   apply A3 (i:=1);rfl;rfl;rfl
   · intro w9;refine A9 ty34 ?_;exact Aa A4
   apply Ay (i:=5);rfl;rfl;rfl
   · intro w9;refine Ad (R_load_hdr (nid:=721) (hid:=722) U (.no U) U (.tm U) U (set_at _ (Al hr0)) Bz U U U U U U) U ?_;exact An [0,2,3,7,21,31,33,38] [888888,2,500,501,3,721,722]
   apply A3 (i:=0);rfl;rfl;rfl
   · intro w9;refine Br C4 ?_;exact Aa A4
   apply Ay (i:=6);rfl;rfl;rfl
   · intro w9;refine Bl (R_cut (m:=8) U U U (.tm U) U (.yes (.const U) (fun _=>by first|rfl|omega|(simp<;>omega))) Tryz.underlying40 ty3 (by simp;omega)) U ?_;exact An [0,2,3,7,21,31,39] [888888,2,500,501,3,721,722]
   apply Ay (i:=5);rfl;rfl;rfl
   · intro w9;refine Ad (R_load_hdr (nid:=721) (hid:=722) U (.no U) U (.tm U) U (set_at _ (Al hr0)) Bz U U U U U U) U ?_;exact An [0,2,3,7,21,31,34,38] [888888,2,500,501,3,721,722]
   apply A3 (i:=1);rfl;rfl;rfl
   · intro w9;refine A9 ty34 ?_;exact Aa A4
   apply Ay (i:=6);rfl;rfl;rfl
   · intro w9;refine Bl (R_cut (m:=8) U U U (.tm U) U (.yes (.const U) (fun _=>by first|rfl|omega|(simp<;>omega))) Tryz.underlying40 ty3 (by simp;omega)) U ?_;exact An [0,2,3,7,21,31,33,39] [888888,2,500,501,3,721,722]
   apply A3 (i:=0);rfl;rfl;rfl
   · intro w9;refine Br C4 ?_;exact Aa A4
   apply Ay (i:=6);rfl;rfl;rfl
   · intro w9;refine Bl (R_cut (m:=8) U U U (.tm U) U (.yes (.const U) (fun _=>by first|rfl|omega|(simp<;>omega))) Tryz.underlying40 ty3 (by simp;omega)) U ?_;exact An [0,2,3,7,21,31,34,39] [888888,2,500,501,3,721,722]
   apply A3 (i:=1);rfl;rfl;rfl
   · intro w9;refine A9 ty34 ?_;exact Aa A4
   apply Ay (i:=7);rfl;rfl;rfl
   · intro w9;refine Ad (Ax U (.no U) U (.tm U) U (.const U) Tryz.underlying34 Bz (fun _=>⟨by omega,set_at _ (Al hr0)⟩)) U ?_;exact An [0,2,3,7,21,31,39,40] [888888,2,500,501,3,721,722]
   apply Ay (i:=8);rfl;rfl;rfl
   · intro w9;refine Ch (Cn U U U (.tm U) U (.tm U) U (set_at _ (Al hr0)) Bz U U U U) ?_;exact An [0,2,3,7,21,31] [888888,2,500,501,3,722]
   refine Dag.fin (k:=19) U ?_;refine Aa (Af (A9 Bt ?_));refine Az Bt ?_;refine Aa (Am ?_);apply DRes.mk (x:=⟨z5.Start,z5.Accept,z5.Next.set 0 (r0.take 8)⟩) rfl
   case h=>
    refine Res.one U (.cell U U Bt U U .nil) U ?_
    (refine congrArg (fun r=>[V0.agg [.v (.int .i64 z5.Start),.sl 1 (z5.Accept.map cBool),.sl 1 r]]) ?_;simp [List.set_set,List.map_set,List.map_take,cIntS,cInt])
   case hp=>exact trivial
 try simp at h31
 refine Aj (Af (A9 Bt ?_));refine Az Bt ?_;refine Aa (Am ?_);apply DRes.mk (x:=z5) rfl
 case h=>
  refine Res.one U (.cell U U Bt U U .nil) U ?_
  rfl
 case hp=>exact trivial
theorem specl14PairD:FnD Tryz.prog 70 [] (fun _:TGraph×TAutomaton=>True) pairOut:=by
 refine FnD.walk Tryz.func70 U (by kernel_rfl) Tryz.ntmps70 U (fun g=>rfl) fun w0 g=>?_
 refine Af (A6 (Bi 2 U U U in45 U U U) U ?_);refine A6 (Bi 3 U U U in36 U U U) U ?_;refine Aa (Af (Ab ?_));refine Bd (Bf 700 (specl3GraphN) U U U (.tm U) U U .nil (fun _=>rfl) (fun _=>rfl)) ?_
 rintro _ ⟨z7,hz7,rfl⟩
 try dsimp only at hz7
 refine A6 (Bi 4 U U U in45 U U U) U ?_;refine Az Bx ?_;refine Aa (Af (Ab ?_));refine Bd (Bf 900 (specl11AutD) U U U (.tm U) U U .nil (fun _=>rfl) (fun _=>rfl)) ?_
 rintro _ ⟨z9,hz9,rfl⟩
 try dsimp only at hz9
 refine A6 (Bi 5 U U U in36 U U U) U ?_;refine Az Bt ?_;refine Aa (Ae (Af (Ab ?_)));refine Bd (Bf 1100 (specl1Once _) U U U (.tm U) U U (.cons (.const U) U .nil) (fun _=>rfl) (fun _=>rfl)) ?_
 rintro _ ⟨z11,hz11,rfl⟩
 try dsimp only at hz11
 refine Aa (Ai (.tm U) (fun h11=>?_) (fun h11=>?_))
 · try simp at h11
   refine Ar (Av [0,2,3,4,5] [888888,2,3,700,701,4,900,901,5]) ?_;refine Ac (Ab ?_);refine Bd (Bf 1300 (specl3AnyD) U U U (.tm U) U U .nil (fun _=>rfl) (fun _=>rfl)) ?_
   rintro _ ⟨z13,hz13,rfl⟩
   try dsimp only at hz13
   refine Az Bx ?_;refine Aa (Ae (Af (Ab ?_)));refine Bd (Bf 1500 (specl1Once _) U U U (.tm U) U U (.cons (.const U) U .nil) (fun _=>rfl) (fun _=>rfl)) ?_
   rintro _ ⟨z15,hz15,rfl⟩
   try dsimp only at hz15
   refine Aa (Ai (.tm U) (fun h15=>?_) (fun h15=>?_))
   · try simp at h15
     refine Ac (Ab ?_);refine Bd (Bf 1700 (specl11AnyD) U U U (.tm U) U U .nil (fun _=>rfl) (fun _=>rfl)) ?_
     rintro _ ⟨z17,hz17,rfl⟩
     try dsimp only at hz17
     refine Az Bt ?_;refine Aa (Ae (Ar (Av [0,2,3,4,5] [888888,2,3,700,701,4,900,901,5,1300,1301,1700,1701]) ?_));refine AW.dagn 4 6 [[],[0],[1],[0,1],[0,2],[0,1,2],[0,1,2,3]] [(0,0,1),(0,1,2),(1,1,3),(2,0,3),(1,2,4),(3,2,5),(4,1,5),(5,3,6)] (by kernel_rfl) (by kernel_rfl) (by kernel_rfl) ?_;apply Ay (i:=0)
     case ha|ho|hb=>rfl
     case hE=>
      intro w9;refine A9 Bx ?_;exact An [0,2,3,4,5,18] [888888,2,3,700,701,4,900,901,5,1300,1301,1700,1701]
     apply Ay (i:=1);rfl;rfl;rfl
     · intro w9;refine A9 Bt ?_;exact An [0,2,3,4,5,19] [888888,2,3,700,701,4,900,901,5,1300,1301,1700,1701]
     apply Ay (i:=1);rfl;rfl;rfl
     · intro w9;refine A9 Bt ?_;exact An [0,2,3,4,5,18,19] [888888,2,3,700,701,4,900,901,5,1300,1301,1700,1701]
     apply A3 (i:=0);rfl;rfl;rfl
     · intro w9;refine A9 Bx ?_;exact Aa A4
     apply Ay (i:=2);rfl;rfl;rfl
     · intro w9;refine Az Bx ?_;exact An [0,2,3,4,5] [888888,2,3,700,701,4,900,901,5,1300,1301,1700,1701]
     apply Ay (i:=2);rfl;rfl;rfl
     · intro w9;refine Az Bx ?_;exact An [0,2,3,4,5,19] [888888,2,3,700,701,4,900,901,5,1300,1301,1700,1701]
     apply A3 (i:=1);rfl;rfl;rfl
     · intro w9;refine A9 Bt ?_;exact Aa A4
     apply Ay (i:=3);rfl;rfl;rfl
     · intro w9;refine Az Bt ?_;exact An [0,2,3,4,5] [888888,2,3,700,701,4,900,901,5,1300,1301,1700,1701]
     refine Dag.fin (k:=6) U ?_;refine Aa (Am ?_);apply DRes.mk (x:=(z13,z17)) rfl
     case h=>
      refine Cy U (.cell U U Bx U U (.cell U U Bt U U .nil)) U ?_ (by simp)
      rfl
     case hp=>exact trivial
   try simp at h15
   refine Aj (Ae (AW.dagn 4 6 [[],[0],[1],[0,1],[0,2],[0,1,2],[0,1,2,3]] [(0,0,1),(0,1,2),(1,1,3),(2,0,3),(1,2,4),(3,2,5),(4,1,5),(5,3,6)] (by kernel_rfl) (by kernel_rfl) (by kernel_rfl) ?_));apply Ay (i:=0)
   case ha|ho|hb=>rfl
   case hE=>
    intro w9;refine A9 Bx ?_;exact An [0,2,3,4,5,15,18] [888888,2,3,700,701,4,900,901,5,1300,1301]
   apply Ay (i:=1);rfl;rfl;rfl
   · intro w9;refine A9 Bt ?_;exact An [0,2,3,4,5,15,19] [888888,2,3,700,701,4,900,901,5,1300,1301]
   apply Ay (i:=1);rfl;rfl;rfl
   · intro w9;refine A9 Bt ?_;exact An [0,2,3,4,5,15,18,19] [888888,2,3,700,701,4,900,901,5,1300,1301]
   apply A3 (i:=0);rfl;rfl;rfl
   · intro w9;refine A9 Bx ?_;exact Aa A4
   apply Ay (i:=2);rfl;rfl;rfl
   · intro w9;refine Az Bx ?_;exact An [0,2,3,4,5,15] [888888,2,3,700,701,4,900,901,5,1300,1301]
   apply Ay (i:=2);rfl;rfl;rfl
   · intro w9;refine Az Bx ?_;exact An [0,2,3,4,5,15,19] [888888,2,3,700,701,4,900,901,5,1300,1301]
   apply A3 (i:=1);rfl;rfl;rfl
   · intro w9;refine A9 Bt ?_;exact Aa A4
   apply Ay (i:=3);rfl;rfl;rfl
   · intro w9;refine Az Bt ?_;exact An [0,2,3,4,5,15] [888888,2,3,700,701,4,900,901,5,1300,1301]
   refine Dag.fin (k:=6) U ?_;refine Aa (Am ?_);apply DRes.mk (x:=(z13,z9)) rfl
   case h=>
    refine Cy U (.cell U U Bx U U (.cell U U Bt U U .nil)) U ?_ (by simp)
    rfl
   case hp=>exact trivial
 try simp at h11
 refine Aj (Ae (Ae (Ar (Av [0,2,3,4,5] [888888,2,3,700,701,4,900,901,5]) ?_)));refine Ac (Ab ?_);refine Bd (Bf 1500 (specl1Once _) U U U (.tm U) U U (.cons (.const U) U .nil) (fun _=>rfl) (fun _=>rfl)) ?_
 rintro _ ⟨z15,hz15,rfl⟩
 try dsimp only at hz15
 refine Aa (Ai (.tm U) (fun h15=>?_) (fun h15=>?_))
 · try simp at h15
   refine Ac (Ab ?_);refine Bd (Bf 1700 (specl11AnyD) U U U (.tm U) U U .nil (fun _=>rfl) (fun _=>rfl)) ?_
   rintro _ ⟨z17,hz17,rfl⟩
   try dsimp only at hz17
   refine Az Bt ?_;refine Aa (Ae (AW.dagn 4 6 [[],[0],[1],[0,1],[0,2],[0,1,2],[0,1,2,3]] [(0,0,1),(0,1,2),(1,1,3),(2,0,3),(1,2,4),(3,2,5),(4,1,5),(5,3,6)] (by kernel_rfl) (by kernel_rfl) (by kernel_rfl) ?_));apply Ay (i:=0)
   case ha|ho|hb=>rfl
   case hE=>
    intro w9;refine A9 Bx ?_;exact An [0,2,3,4,5,15,18] [888888,2,3,700,701,4,900,901,5,1700,1701]
   apply Ay (i:=1);rfl;rfl;rfl
   · intro w9;refine A9 Bt ?_;exact An [0,2,3,4,5,15,19] [888888,2,3,700,701,4,900,901,5,1700,1701]
   apply Ay (i:=1);rfl;rfl;rfl
   · intro w9;refine A9 Bt ?_;exact An [0,2,3,4,5,15,18,19] [888888,2,3,700,701,4,900,901,5,1700,1701]
   apply A3 (i:=0);rfl;rfl;rfl
   · intro w9;refine A9 Bx ?_;exact Aa A4
   apply Ay (i:=2);rfl;rfl;rfl
   · intro w9;refine Az Bx ?_;exact An [0,2,3,4,5,15] [888888,2,3,700,701,4,900,901,5,1700,1701]
   apply Ay (i:=2);rfl;rfl;rfl
   · intro w9;refine Az Bx ?_;exact An [0,2,3,4,5,15,19] [888888,2,3,700,701,4,900,901,5,1700,1701]
   apply A3 (i:=1);rfl;rfl;rfl
   · intro w9;refine A9 Bt ?_;exact Aa A4
   apply Ay (i:=3);rfl;rfl;rfl
   · intro w9;refine Az Bt ?_;exact An [0,2,3,4,5,15] [888888,2,3,700,701,4,900,901,5,1700,1701]
   refine Dag.fin (k:=6) U ?_;refine Aa (Am ?_);apply DRes.mk (x:=(z7,z17)) rfl
   case h=>
    refine Cy U (.cell U U Bx U U (.cell U U Bt U U .nil)) U ?_ (by simp)
    rfl
   case hp=>exact trivial
 try simp at h15
 refine Aj (Ae (AW.dagn 4 6 [[],[0],[1],[0,1],[0,2],[0,1,2],[0,1,2,3]] [(0,0,1),(0,1,2),(1,1,3),(2,0,3),(1,2,4),(3,2,5),(4,1,5),(5,3,6)] (by kernel_rfl) (by kernel_rfl) (by kernel_rfl) ?_));apply Ay (i:=0)
 case ha|ho|hb=>rfl
 case hE=>
  intro w9;refine A9 Bx ?_;exact An [0,2,3,4,5,15,18] [888888,2,3,700,701,4,900,901,5]
 apply Ay (i:=1);rfl;rfl;rfl
 · intro w9;refine A9 Bt ?_;exact An [0,2,3,4,5,15,19] [888888,2,3,700,701,4,900,901,5]
 apply Ay (i:=1);rfl;rfl;rfl
 · intro w9;refine A9 Bt ?_;exact An [0,2,3,4,5,15,18,19] [888888,2,3,700,701,4,900,901,5]
 apply A3 (i:=0);rfl;rfl;rfl
 · intro w9;refine A9 Bx ?_;exact Aa A4
 apply Ay (i:=2);rfl;rfl;rfl
 · intro w9;refine Az Bx ?_;exact An [0,2,3,4,5,15] [888888,2,3,700,701,4,900,901,5]
 apply Ay (i:=2);rfl;rfl;rfl
 · intro w9;refine Az Bx ?_;exact An [0,2,3,4,5,15,19] [888888,2,3,700,701,4,900,901,5]
 apply A3 (i:=1);rfl;rfl;rfl
 · intro w9;refine A9 Bt ?_;exact Aa A4
 apply Ay (i:=3);rfl;rfl;rfl
 · intro w9;refine Az Bt ?_;exact An [0,2,3,4,5,15] [888888,2,3,700,701,4,900,901,5]
 refine Dag.fin (k:=6) U ?_;refine Aa (Am ?_);apply DRes.mk (x:=(z7,z9)) rfl
 case h=>
  refine Cy U (.cell U U Bx U U (.cell U U Bt U U .nil)) U ?_ (by simp)
  rfl
 case hp=>exact trivial
end Go.Proofs.YtbecibmlbiebeaaGreat
