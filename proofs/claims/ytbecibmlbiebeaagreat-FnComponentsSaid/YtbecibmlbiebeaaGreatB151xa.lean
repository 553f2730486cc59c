import Derived.Test.YtbecibmlbiebeaaGreatB150xa
set_option linter.unusedVariables false
set_option linter.unusedSimpArgs false
set_option maxHeartbeats 1000000
set_option maxRecDepth 100000
namespace Go.Proofs.YtbecibmlbiebeaaGreat
open Go.RowKit Go.Q Go.D
theorem specl11AnyD:FnD Tryz.prog 146 [] (fun _:TAutomaton=>True) (fun a=>.a (.agg (cAutomaton a))):=by
 refine FnD.walk Tryz.func146 U (by kernel_rfl) Tryz.ntmps146 U (fun g=>rfl) fun w0 g=>?_
 refine Ah (Bh (Bl 2 U U U in36 U U U) U ?_);refine Aa (Ah (Ac ?_));refine Bi (Bj 500 (specl11AutD) U U U (.tm U) U U .nil (fun _=>rfl) (fun _=>rfl)) ?_
 rintro _ ⟨z5,hz5,rfl⟩
 try dsimp only at hz5
 refine Bh (Bl 3 U U U in36 U U U) U ?_;refine A5 (Au U U U (.tm U) (.tm U) U Br U U U (by kernel_rfl) U) ?_;refine Aa (Af (Ah (Ac ?_)));refine Bi (Bj 700 (specl1Below _) U U U (.tm U) U U (.cons (.const U) U .nil) (fun _=>rfl) (fun _=>rfl)) ?_
 rintro _ ⟨z7,hz7,rfl⟩
 try dsimp only at hz7
 refine Aa (AW.block (Ah (Ab (B7 U (.no U) U (.tm U) (.const U)) U ?_)));refine Ak ?_;refine Aa (Aq (.tm U) (fun h8=>?_) (fun h8=>?_))
 · try simp at h8
   refine Ae (Ac ?_);refine Ab (B6 (xs:=[.const (.int .i64 (-1)),.const (.int .i64 (12)),.const (.int .i64 (1))]) (rows:=[cInt (-1),cInt 12,cInt 1]) U U U (.cons (.const U) U U (.cons (.const U) U U (.cons (.const U) U U .nil))) Tryz.underlying40 in3 U U (U)) U ?_;refine Bi (Bj 1200 (specl1PickInt [-1,12,1] (by decide)) U U U (.tm U) U U (.cons (.tm U) U .nil) (fun _=>rfl) (fun _=>rfl)) ?_
   rintro _ ⟨z12,hz12,rfl⟩
   try dsimp only at hz12
   refine Ab (Am U (.no U) U (.tm U) fl36_0) U ?_;refine A5 (Au U U U (.tm U) (.tm U) U ty3 U U U (by kernel_rfl) U) ?_;refine Aa (Af (A4 (σ':=⟨_,[(0,_),(2,_),(3,_),(7,_)],[(888888,_),(2,_),(500,_),(501,_),(3,_)]⟩) Ai ?_));refine Ae (Ab (Al U (.no U) U (.tm U) U Br U U) U ?_);refine A5 (Au U U U (.tm U) (.tm U) U Br U U U (by kernel_rfl) U) ?_;refine Aa (A3 ?_);apply DRes.mk (x:=⟨z12,z5.Accept,z5.Next⟩) rfl
   case h=>
    refine Res.one U (.cell U U Br U U .nil) U ?_
    rfl
   case hp=>exact trivial
 · try simp at h8
   refine Ah (Ab (B7 U (.no U) U (.tm U) (.const U)) U ?_);refine Ak ?_;refine Aa (Aq (.tm U) (fun h14=>?_) (fun h14=>?_))
   · try simp at h14
     have hac:=hz5.2.2
     refine A4 (σ':=⟨_,[(0,_),(2,_),(3,_),(7,_)],[(888888,_),(2,_),(500,_),(501,_),(3,_)]⟩) Ai ?_;refine Ae (Ab (Am U (.no U) U (.tm U) Cw) U ?_);refine Ab (Al U (.no U) U (.tm U) U Dc U U) U ?_;refine Ab (B6 (xs:=[.const (.bool true)]) (rows:=[cBool true]) U U U (.cons (.const U) U U .nil) Tryz.underlying33 in4 U U (U)) U ?_;refine Bk (Bt U U U (.tm U) U (.tm U) (by exact .t) (by rfl) Tryz.underlying33 in4 U (by (simp [chunk];omega)) (by (unfold maxLen;simp [chunk];omega))) U ?_;refine Bq (σ':=⟨_,[(0,_),(2,_),(3,_),(7,_),(19,_)],[(888888,_),(2,_),(500,_),(501,_),(3,_)]⟩) Ai ?_;refine Ab (Am U (.no U) U (.tm U) Cw) U ?_;refine A5 (Au U U U (.tm U) (.tm U) U Dc U U U (by kernel_rfl) U) ?_;refine Aa (Ah (Ab (Al U (.no U) U (.tm U) U Br U U) U ?_));refine A5 (Au U U U (.tm U) (.tm U) U Br U U U (by kernel_rfl) U) ?_;refine Aa (A3 ?_)
     apply DRes.mk (x:=⟨z5.Start,z5.Accept++[true],z5.Next⟩) rfl
     case h=>
      refine Res.one U (.cell U U Br U U .nil) U ?_
      (refine congrArg (fun r=>[V0.agg [.v (.int .i64 z5.Start),.sl 1 r,.sl 1 (z5.Next.map cIntS)]]) ?_;rw [List.map_append];rfl)
     case hp=>exact trivial
   · try simp at h14
     refine Af (A4 (σ':=⟨_,[(0,_),(2,_),(3,_),(7,_)],[(888888,_),(2,_),(500,_),(501,_),(3,_)]⟩) Ai ?_);refine Ae (Ab (B7 U (.no U) U (.tm U) (.const U)) U ?_);refine Ak ?_;refine Aa (Aq (.tm U) (fun h21=>?_) (fun h21=>?_))
     · try simp at h21
       obtain⟨r0,hr0⟩:∃ ξ,z5.Next[0]?=some ξ:=⟨_,List.getElem?_eq_getElem (by have:=hz5.1;omega)⟩
       have hrl:=hz5.2.1 r0 (List.mem_of_getElem? hr0)
       obtain⟨x0,hx0⟩:∃ ξ,r0[0]?=some ξ:=⟨_,List.getElem?_eq_getElem (by omega)⟩
       refine AW.takeR (id:=501) (i:=0) (p:=0) 721 722 U (Ax hr0) U (fun _=>rfl) (fun _=>rfl) fun c721=>?_
       refine A4 (σ':=⟨_,[(0,_),(2,_),(3,_),(7,_),(21,_),(22,_)],[(888888,_),(2,_),(500,_),(501,_),(3,_),(721,_),(722,_)]⟩) Ai ?_;apply Cd (N:=7) (k:=8) (Hs:=[0,1,4]) (ms:=[[],[2],[5],[2,3],[2,5],[5,6],[2,3,5],[2,5,6],[2,3,5,6]]) (es:=[(0,2,1),(0,5,2),(1,3,3),(1,5,4),(2,2,4),(2,6,5),(3,5,6),(4,3,6),(4,6,7),(5,2,7),(6,6,8),(7,3,8)]) (σ1:=_) (SM:=⟨_,[(0,_),(2,_),(3,_),(7,_),(21,_),(22,_),(23,_),(24,_),(27,_)],[(888888,_),(2,_),(500,_),(501,_),(3,_),(721,_),(722,_)]⟩)
       case hm=>kernel_rfl
       case hB=>kernel_rfl
       case hP=>kernel_rfl
       case hL=>kernel_rfl
       case hN=>rfl
       case hpre=>
        apply Ay (P:=Tryz.prog) 0 rfl ((Am rfl (.no rfl) rfl (.tm rfl) Cy)) (by exact .pp) rfl rfl rfl;apply Ay (P:=Tryz.prog) 1 rfl ((by exact Al rfl (.no rfl) rfl (.tm rfl) rfl ty34 rfl rfl)) (by exact HasV.load (x:=.tmp 23) (.tm rfl) rfl ty34 rfl rfl) rfl rfl rfl;apply Ay (P:=Tryz.prog) 4 rfl (Ar rfl (.no rfl) rfl (.tm rfl)) (by exact HasV.slot (t:=0) rfl) rfl rfl rfl;exact PreOk.nil
       case hS=>exact A8
       case hH=>
        refine⟨⟨_,_,_,rfl,rfl,rfl,fun σ' hs=>(by exact Am rfl (.no rfl) (Ag hs rfl) (.tm (hs.slots _ _ rfl)) Cy)⟩,?_⟩
        refine⟨⟨_,_,_,rfl,rfl,rfl,fun σ' hs=>(by exact Al rfl (.no rfl) (Ag hs rfl) (.tm (hs.slots _ _ rfl)) (hs.res _ _ rfl) ty34 rfl rfl)⟩,?_⟩
        refine⟨⟨_,_,_,rfl,rfl,rfl,fun σ' hs=>Ar rfl (.no rfl) (Ag hs rfl) (.tm (hs.slots _ _ rfl))⟩,?_⟩
        trivial
       apply Dh.new0 (i:=2)
       case ha|ho|hb=>rfl
       case hE=>
        intro w9  hp
        obtain _:=hp
        refine Ab (by exact A9 U (.no U) U (.tm U) U (.const U) Tryz.underlying34 By (fun _=>⟨by omega,set_at _ (Ax hr0)⟩)) U ?_;refine Aa ?_;exact A7 (Ai (σ':=⟨_,[(0,_),(2,_),(3,_),(7,_),(21,_),(22,_),(23,_),(24,_),(25,_),(27,_)],[(888888,_),(2,_),(500,_),(501,_),(3,_),(721,_),(722,_)]⟩)) U
       case hS=>intros;exact A8
       apply Dh.new0 (i:=5)
       case ha|ho|hb=>rfl
       case hE=>
        intro w9  hp
        obtain _:=hp
        refine Ab (B6 (xs:=[.const (.int .i64 (-2)),.const (.int .i64 (12)),.const (.int .i64 (0))]) (rows:=[cInt (-2),cInt 12,cInt 0]) U U U (.cons (.const U) U U (.cons (.const U) U U (.cons (.const U) U U .nil))) Tryz.underlying40 in3 U U (U)) U ?_;refine Aa ?_;exact A7 (Ai (σ':=⟨_,[(0,_),(2,_),(3,_),(7,_),(21,_),(22,_),(23,_),(24,_),(27,_),(28,_)],[(888888,_),(2,_),(500,_),(501,_),(3,_),(721,_),(722,_)]⟩)) U
       case hS=>intros;exact A8
       apply Dh.new0 (i:=3)
       case ha|ho|hb=>rfl
       case hE=>
        intro w9  hp
        obtain _:=hp
        refine Ab (R_load_hdr (nid:=721) (hid:=722) U (.no U) U (.tm U) U (set_at _ (Ax hr0)) By U U U U U U) U ?_;refine Aa ?_;exact A7 (Ai (σ':=⟨_,[(0,_),(2,_),(3,_),(7,_),(21,_),(22,_),(23,_),(24,_),(26,_),(27,_)],[(888888,_),(2,_),(500,_),(501,_),(3,_),(721,_),(722,_)]⟩)) U
       case hS=>intros;exact A8
       apply Dh.new0 (i:=5)
       case ha|ho|hb=>rfl
       case hE=>
        intro w9  hp
        obtain _:=hp
        refine Ab (B6 (xs:=[.const (.int .i64 (-2)),.const (.int .i64 (12)),.const (.int .i64 (0))]) (rows:=[cInt (-2),cInt 12,cInt 0]) U U U (.cons (.const U) U U (.cons (.const U) U U (.cons (.const U) U U .nil))) Tryz.underlying40 in3 U U (U)) U ?_;refine Aa ?_;exact A7 (Ai (σ':=⟨_,[(0,_),(2,_),(3,_),(7,_),(21,_),(22,_),(23,_),(24,_),(25,_),(27,_),(28,_)],[(888888,_),(2,_),(500,_),(501,_),(3,_),(721,_),(722,_)]⟩)) U
       case hS=>intros;exact A8
       apply Dh.old0 (i:=2)
       case ha|ho|hb=>rfl
       case hE=>
        intro w9  hp
        obtain _:=hp
        refine Ab (A9 U (.no U) U (.tm U) U (.const U) Tryz.underlying34 By (fun _=>⟨by omega,set_at _ (Ax hr0)⟩)) U ?_;exact Aa Ai
       apply Dh.drw0 (i:=6)
       case ha=>rfl
       case ho=>rfl
       case hE=>
        intro  hp
        obtain _:=hp
        exact Bj 2900 (specl1PickInt [-2,12,0] (by decide)) rfl rfl rfl (.tm rfl) rfl rfl (.cons (.tm rfl) rfl .nil) (fun _=>rfl) (fun _=>rfl)
       case hb=>rfl
       case hL=>
        intro  z29 hp hy;exact A7 (Ai (σ':=⟨_,[(0,_),(2,_),(3,_),(7,_),(21,_),(22,_),(23,_),(24,_),(27,_),(29,_)],[(888888,_),(2,_),(500,_),(501,_),(3,_),(721,_),(722,_)]⟩)) U
       case hS=>intros;exact A8
       apply Dh.new0 (i:=5)
       case ha|ho|hb=>rfl
       case hE=>
        intro w9  hp
        obtain _:=hp
        refine Ab (B6 (xs:=[.const (.int .i64 (-2)),.const (.int .i64 (12)),.const (.int .i64 (0))]) (rows:=[cInt (-2),cInt 12,cInt 0]) U U U (.cons (.const U) U U (.cons (.const U) U U (.cons (.const U) U U .nil))) Tryz.underlying40 in3 U U (U)) U ?_;refine Aa ?_;exact A7 (Ai (σ':=⟨_,[(0,_),(2,_),(3,_),(7,_),(21,_),(22,_),(23,_),(24,_),(26,_),(27,_),(28,_)],[(888888,_),(2,_),(500,_),(501,_),(3,_),(721,_),(722,_)]⟩)) U
       case hS=>intros;exact A8
       apply Dh.old0 (i:=3)
       case ha|ho|hb=>rfl
       case hE=>
        intro w9  hp
        obtain _:=hp
        refine Ab (R_load_hdr (nid:=721) (hid:=722) U (.no U) U (.tm U) U (set_at _ (Ax hr0)) By U U U U U U) U ?_;exact Aa Ai
       apply Dh.drw0 (i:=6)
       case ha=>rfl
       case ho=>rfl
       case hE=>
        intro  hp
        obtain _:=hp
        exact Bj 2900 (specl1PickInt [-2,12,0] (by decide)) rfl rfl rfl (.tm rfl) rfl rfl (.cons (.tm rfl) rfl .nil) (fun _=>rfl) (fun _=>rfl)
       case hb=>rfl
       case hL=>
        intro  z29 hp hy;exact A7 (Ai (σ':=⟨_,[(0,_),(2,_),(3,_),(7,_),(21,_),(22,_),(23,_),(24,_),(25,_),(27,_),(29,_)],[(888888,_),(2,_),(500,_),(501,_),(3,_),(721,_),(722,_)]⟩)) U
       case hS=>intros;exact A8
       apply Dh.old1 (i:=2)
       case ha|ho|hb=>rfl
       case hE=>
        intro w9 z29 hp
        obtain⟨_,hz29⟩:=hp
        refine Ab (A9 U (.no U) U (.tm U) U (.const U) Tryz.underlying34 By (fun _=>⟨by omega,set_at _ (Ax hr0)⟩)) U ?_;exact Aa Ai
       apply Dh.drw0 (i:=6)
       case ha=>rfl
       case ho=>rfl
       case hE=>
        intro  hp
        obtain _:=hp
        exact Bj 2900 (specl1PickInt [-2,12,0] (by decide)) rfl rfl rfl (.tm rfl) rfl rfl (.cons (.tm rfl) rfl .nil) (fun _=>rfl) (fun _=>rfl)
       case hb=>rfl
       case hL=>
        intro  z29 hp hy;exact A7 (Ai (σ':=⟨_,[(0,_),(2,_),(3,_),(7,_),(21,_),(22,_),(23,_),(24,_),(26,_),(27,_),(29,_)],[(888888,_),(2,_),(500,_),(501,_),(3,_),(721,_),(722,_)]⟩)) U
       case hS=>intros;exact A8
       apply Dh.old1 (i:=3)
       case ha|ho|hb=>rfl
       case hE=>
        intro w9 z29 hp
        obtain⟨_,hz29⟩:=hp
        refine Ab (R_load_hdr (nid:=721) (hid:=722) U (.no U) U (.tm U) U (set_at _ (Ax hr0)) By U U U U U U) U ?_;exact Aa Ai
       refine Dh.fin1 (k:=8) rfl ?_;intro z29 hp
       obtain⟨_,hz29⟩:=hp
       refine Ab (A9 U (.no U) U (.tm U) U (.const U) Tryz.underlying40 ty3 (fun _=>⟨by omega,Ax hx0⟩)) U ?_;refine Ci (Cm U U U (.tm U) U (.tm U) U (Ax hx0) ty3 U U U U) ?_;refine Aa (A4 (Le.putR (nid:=721) (hid:=722) (id:=501) (i:=0) (p:=0) U U U (set_at _ (Ax hr0)) U U U U) ?_);refine Af (A4 (σ':=⟨_,[(0,_),(2,_),(3,_),(7,_)],[(888888,_),(2,_),(500,_),(501,_),(3,_)]⟩) Ai ?_);refine Ae (Ab (Al U (.no U) U (.tm U) U Br U U) U ?_);refine A5 (Au U U U (.tm U) (.tm U) U Br U U U (by kernel_rfl) U) ?_;refine Aa (A3 ?_);apply DRes.mk (x:=⟨z5.Start,z5.Accept,z5.Next.set 0 (r0.set 0 z29)⟩) rfl
       case h=>
        refine Res.one U (.cell U U Br U U .nil) U ?_
        (refine congrArg (fun r=>[V0.agg [.v (.int .i64 z5.Start),.sl 1 (z5.Accept.map cBool),.sl 1 r]]) ?_;simp [List.set_set,List.map_set,List.map_take,cIntS,cInt])
       case hp=>exact trivial
     · try simp at h21
       refine Ah (Ab (B7 U (.no U) U (.tm U) (.const U)) U ?_);refine Ak ?_;refine Aa (Aq (.tm U) (fun h31=>?_) (fun h31=>?_))
       · try simp at h31
         obtain⟨r0,hr0⟩:∃ ξ,z5.Next[0]?=some ξ:=⟨_,List.getElem?_eq_getElem (by have:=hz5.1;omega)⟩
         have hrl:=hz5.2.1 r0 (List.mem_of_getElem? hr0)
         refine AW.takeR (id:=501) (i:=0) (p:=0) 721 722 U (Ax hr0) U (fun _=>rfl) (fun _=>rfl) fun c721=>?_
         refine AW.dagn 9 19 [[],[0],[2],[0,1],[0,2],[2,3],[0,1,2],[0,2,3],[2,3,4],[0,1,2,3],[0,2,3,4],[2,3,4,5],[0,1,2,3,4],[0,2,3,4,5],[2,3,4,5,6],[0,1,2,3,4,5],[0,2,3,4,5,6],[0,1,2,3,4,5,6],[0,1,2,3,4,5,6,7],[0,1,2,3,4,5,6,7,8]] [(0,0,1),(0,2,2),(1,1,3),(1,2,4),(2,0,4),(2,3,5),(3,2,6),(4,1,6),(4,3,7),(5,0,7),(5,4,8),(6,3,9),(7,1,9),(7,4,10),(8,0,10),(8,5,11),(9,4,12),(10,1,12),(10,5,13),(11,0,13),(11,6,14),(12,5,15),(13,1,15),(13,6,16),(14,0,16),(15,6,17),(16,1,17),(17,7,18),(18,8,19)] (by kernel_rfl) (by kernel_rfl) (by kernel_rfl) ?_;apply Bb (i:=0)
         case ha|ho|hb=>rfl
         case hE=>
          intro w9;refine Ab (Am U (.no U) U (.tm U) Cy) U ?_;exact Aa (Ai (σ':=⟨_,[(0,_),(2,_),(3,_),(7,_),(21,_),(31,_),(33,_)],[(888888,_),(2,_),(500,_),(501,_),(3,_),(721,_),(722,_)]⟩))
         apply Bb (i:=2)
         case ha|ho|hb=>rfl
         case hE=>
          intro w9;refine Ab (Am U (.no U) U (.tm U) Cy) U ?_;exact Aa (Ai (σ':=⟨_,[(0,_),(2,_),(3,_),(7,_),(21,_),(31,_),(35,_)],[(888888,_),(2,_),(500,_),(501,_),(3,_),(721,_),(722,_)]⟩))
         apply Bb (i:=1)
         case ha|ho|hb=>rfl
         case hE=>
          intro w9;refine Ab (Al U (.no U) U (.tm U) U ty34 U U) U ?_;exact Aa (Ai (σ':=⟨_,[(0,_),(2,_),(3,_),(7,_),(21,_),(31,_),(34,_)],[(888888,_),(2,_),(500,_),(501,_),(3,_),(721,_),(722,_)]⟩))
         apply Bb (i:=2)
         case ha|ho|hb=>rfl
         case hE=>
          intro w9;refine Ab (Am U (.no U) U (.tm U) Cy) U ?_;exact Aa (Ai (σ':=⟨_,[(0,_),(2,_),(3,_),(7,_),(21,_),(31,_),(33,_),(35,_)],[(888888,_),(2,_),(500,_),(501,_),(3,_),(721,_),(722,_)]⟩))
         apply Bc (i:=0)
         case ha|ho|hb=>rfl
         case hE=>
          intro w9;refine Ab (Am U (.no U) U (.tm U) Cy) U ?_;exact Aa Ai
         apply Bb (i:=3)
         case ha|ho|hb=>rfl
         case hE=>
          intro w9;refine Ab (Al U (.no U) U (.tm U) U ty34 U U) U ?_;exact Aa (Ai (σ':=⟨_,[(0,_),(2,_),(3,_),(7,_),(21,_),(31,_),(36,_)],[(888888,_),(2,_),(500,_),(501,_),(3,_),(721,_),(722,_)]⟩))
         apply Bb (i:=2)
         case ha|ho|hb=>rfl
         case hE=>
          intro w9;refine Ab (Am U (.no U) U (.tm U) Cy) U ?_;exact Aa (Ai (σ':=⟨_,[(0,_),(2,_),(3,_),(7,_),(21,_),(31,_),(34,_),(35,_)],[(888888,_),(2,_),(500,_),(501,_),(3,_),(721,_),(722,_)]⟩))
         apply Bc (i:=1)
         case ha|ho|hb=>rfl
         case hE=>
          intro w9;refine Ab (Al U (.no U) U (.tm U) U ty34 U U) U ?_;exact Aa Ai
         apply Bb (i:=3)
         case ha|ho|hb=>rfl
         case hE=>
          intro w9;refine Ab (Al U (.no U) U (.tm U) U ty34 U U) U ?_;exact Aa (Ai (σ':=⟨_,[(0,_),(2,_),(3,_),(7,_),(21,_),(31,_),(33,_),(36,_)],[(888888,_),(2,_),(500,_),(501,_),(3,_),(721,_),(722,_)]⟩))
         apply Bc (i:=0)
         case ha|ho|hb=>rfl
         case hE=>
          intro w9;refine Ab (Am U (.no U) U (.tm U) Cy) U ?_;exact Aa Ai
         apply Bb (i:=4)
         case ha|ho|hb=>rfl
         case hE=>
          intro w9;refine Ab (A9 U (.no U) U (.tm U) U (.const U) Tryz.underlying34 By (fun _=>⟨by omega,set_at _ (Ax hr0)⟩)) U ?_;exact Aa (Ai (σ':=⟨_,[(0,_),(2,_),(3,_),(7,_),(21,_),(31,_),(37,_)],[(888888,_),(2,_),(500,_),(501,_),(3,_),(721,_),(722,_)]⟩))
         apply Bb (i:=3)
         case ha|ho|hb=>rfl
         case hE=>
          intro w9;refine Ab (Al U (.no U) U (.tm U) U ty34 U U) U ?_;exact Aa (Ai (σ':=⟨_,[(0,_),(2,_),(3,_),(7,_),(21,_),(31,_),(34,_),(36,_)],[(888888,_),(2,_),(500,_),(501,_),(3,_),(721,_),(722,_)]⟩))
         apply Bc (i:=1)
         case ha|ho|hb=>rfl
         case hE=>
          intro w9;refine Ab (Al U (.no U) U (.tm U) U ty34 U U) U ?_;exact Aa Ai
         apply Bb (i:=4)
         case ha|ho|hb=>rfl
         case hE=>
          intro w9;refine Ab (A9 U (.no U) U (.tm U) U (.const U) Tryz.underlying34 By (fun _=>⟨by omega,set_at _ (Ax hr0)⟩)) U ?_;exact Aa (Ai (σ':=⟨_,[(0,_),(2,_),(3,_),(7,_),(21,_),(31,_),(33,_),(37,_)],[(888888,_),(2,_),(500,_),(501,_),(3,_),(721,_),(722,_)]⟩))
         apply Bc (i:=0)
         case ha|ho|hb=>rfl
         case hE=>
          intro w9;refine Ab (Am U (.no U) U (.tm U) Cy) U ?_;exact Aa Ai
         apply Bb (i:=5)
         case ha|ho|hb=>rfl
         case hE=>
          intro w9;refine Ab (R_load_hdr (nid:=721) (hid:=722) U (.no U) U (.tm U) U (set_at _ (Ax hr0)) By U U U U U U) U ?_;exact Aa (Ai (σ':=⟨_,[(0,_),(2,_),(3,_),(7,_),(21,_),(31,_),(38,_)],[(888888,_),(2,_),(500,_),(501,_),(3,_),(721,_),(722,_)]⟩))
         apply Bb (i:=4)
         case ha|ho|hb=>rfl
         case hE=>
          intro w9;refine Ab (A9 U (.no U) U (.tm U) U (.const U) Tryz.underlying34 By (fun _=>⟨by omega,set_at _ (Ax hr0)⟩)) U ?_;exact Aa (Ai (σ':=⟨_,[(0,_),(2,_),(3,_),(7,_),(21,_),(31,_),(34,_),(37,_)],[(888888,_),(2,_),(500,_),(501,_),(3,_),(721,_),(722,_)]⟩))
         apply Bc (i:=1)
         case ha|ho|hb=>rfl
         case hE=>
          intro w9;refine Ab (Al U (.no U) U (.tm U) U ty34 U U) U ?_;exact Aa Ai
         apply Bb (i:=5)
         case ha|ho|hb=>rfl
         case hE=>
          intro w9;refine Ab (R_load_hdr (nid:=721) (hid:=722) U (.no U) U (.tm U) U (set_at _ (Ax hr0)) By U U U U U U) U ?_;exact Aa (Ai (σ':=⟨_,[(0,_),(2,_),(3,_),(7,_),(21,_),(31,_),(33,_),(38,_)],[(888888,_),(2,_),(500,_),(501,_),(3,_),(721,_),(722,_)]⟩))
         apply Bc (i:=0)
         case ha|ho|hb=>rfl
         case hE=>
          intro w9;refine Ab (Am U (.no U) U (.tm U) Cy) U ?_;exact Aa Ai
         apply Bb (i:=6)
         case ha|ho|hb=>rfl
         case hE=>
          intro w9;refine Bk (R_cut (m:=8) U U U (.tm U) U (.yes (.const U) (fun _=>by first|rfl|omega|(simp<;>omega))) Tryz.underlying40 ty3 (by simp;omega)) U ?_;exact Aa (Ai (σ':=⟨_,[(0,_),(2,_),(3,_),(7,_),(21,_),(31,_),(39,_)],[(888888,_),(2,_),(500,_),(501,_),(3,_),(721,_),(722,_)]⟩))
         apply Bb (i:=5)
         case ha|ho|hb=>rfl
         case hE=>
          intro w9;refine Ab (R_load_hdr (nid:=721) (hid:=722) U (.no U) U (.tm U) U (set_at _ (Ax hr0)) By U U U U U U) U ?_;exact Aa (Ai (σ':=⟨_,[(0,_),(2,_),(3,_),(7,_),(21,_),(31,_),(34,_),(38,_)],[(888888,_),(2,_),(500,_),(501,_),(3,_),(721,_),(722,_)]⟩))
         apply Bc (i:=1)
         case ha|ho|hb=>rfl
         case hE=>
          intro w9;refine Ab (Al U (.no U) U (.tm U) U ty34 U U) U ?_;exact Aa Ai
         apply Bb (i:=6)
         case ha|ho|hb=>rfl
         case hE=>
          intro w9;refine Bk (R_cut (m:=8) U U U (.tm U) U (.yes (.const U) (fun _=>by first|rfl|omega|(simp<;>omega))) Tryz.underlying40 ty3 (by simp;omega)) U ?_;exact Aa (Ai (σ':=⟨_,[(0,_),(2,_),(3,_),(7,_),(21,_),(31,_),(33,_),(39,_)],[(888888,_),(2,_),(500,_),(501,_),(3,_),(721,_),(722,_)]⟩))
         apply Bc (i:=0)
         case ha|ho|hb=>rfl
         case hE=>
          intro w9;refine Ab (Am U (.no U) U (.tm U) Cy) U ?_;exact Aa Ai
         apply Bb (i:=6)
         case ha|ho|hb=>rfl
         case hE=>
          intro w9;refine Bk (R_cut (m:=8) U U U (.tm U) U (.yes (.const U) (fun _=>by first|rfl|omega|(simp<;>omega))) Tryz.underlying40 ty3 (by simp;omega)) U ?_;exact Aa (Ai (σ':=⟨_,[(0,_),(2,_),(3,_),(7,_),(21,_),(31,_),(34,_),(39,_)],[(888888,_),(2,_),(500,_),(501,_),(3,_),(721,_),(722,_)]⟩))
         apply Bc (i:=1)
         case ha|ho|hb=>rfl
         case hE=>
          intro w9;refine Ab (Al U (.no U) U (.tm U) U ty34 U U) U ?_;exact Aa Ai
         apply Bb (i:=7)
         case ha|ho|hb=>rfl
         case hE=>
          intro w9;refine Ab (A9 U (.no U) U (.tm U) U (.const U) Tryz.underlying34 By (fun _=>⟨by omega,set_at _ (Ax hr0)⟩)) U ?_;exact Aa (Ai (σ':=⟨_,[(0,_),(2,_),(3,_),(7,_),(21,_),(31,_),(39,_),(40,_)],[(888888,_),(2,_),(500,_),(501,_),(3,_),(721,_),(722,_)]⟩))
         apply Bb (i:=8)
         case ha|ho|hb=>rfl
         case hE=>
          intro w9;refine Ci (Cm U U U (.tm U) U (.tm U) U (set_at _ (Ax hr0)) By U U U U) ?_;exact Aa (Ai (σ':=⟨_,[(0,_),(2,_),(3,_),(7,_),(21,_),(31,_)],[(888888,_),(2,_),(500,_),(501,_),(3,_),(722,_)]⟩))
         refine Dag.fin (k:=19) U ?_;refine Aa (Ah (Ab (Al U (.no U) U (.tm U) U Br U U) U ?_));refine A5 (Au U U U (.tm U) (.tm U) U Br U U U (by kernel_rfl) U) ?_;refine Aa (A3 ?_);apply DRes.mk (x:=⟨z5.Start,z5.Accept,z5.Next.set 0 (r0.take 8)⟩) rfl
         case h=>
          refine Res.one U (.cell U U Br U U .nil) U ?_
          (refine congrArg (fun r=>[V0.agg [.v (.int .i64 z5.Start),.sl 1 (z5.Accept.map cBool),.sl 1 r]]) ?_;simp [List.set_set,List.map_set,List.map_take,cIntS,cInt])
         case hp=>exact trivial
       · try simp at h31
         refine As (Ah (Ab (Al U (.no U) U (.tm U) U Br U U) U ?_));refine A5 (Au U U U (.tm U) (.tm U) U Br U U U (by kernel_rfl) U) ?_;refine Aa (A3 ?_);apply DRes.mk (x:=z5) rfl
         case h=>
          refine Res.one U (.cell U U Br U U .nil) U ?_
          rfl
         case hp=>exact trivial
theorem specl14PairD:FnD Tryz.prog 70 [] (fun _:TGraph×TAutomaton=>True) pairOut:=by
 refine FnD.walk Tryz.func70 U (by kernel_rfl) Tryz.ntmps70 U (fun g=>rfl) fun w0 g=>?_
 refine Ah (Bh (Bl 2 U U U in45 U U U) U ?_);refine Bh (Bl 3 U U U in36 U U U) U ?_;refine Aa (Ah (Ac ?_));refine Bi (Bj 700 (specl3GraphN) U U U (.tm U) U U .nil (fun _=>rfl) (fun _=>rfl)) ?_
 rintro _ ⟨z7,hz7,rfl⟩
 try dsimp only at hz7
 refine Bh (Bl 4 U U U in45 U U U) U ?_;refine A5 (Au U U U (.tm U) (.tm U) U Bu U U U (by kernel_rfl) U) ?_;refine Aa (Ah (Ac ?_));refine Bi (Bj 900 (specl11AutD) U U U (.tm U) U U .nil (fun _=>rfl) (fun _=>rfl)) ?_
 rintro _ ⟨z9,hz9,rfl⟩
 try dsimp only at hz9
 refine Bh (Bl 5 U U U in36 U U U) U ?_;refine A5 (Au U U U (.tm U) (.tm U) U Br U U U (by kernel_rfl) U) ?_;refine Aa (Af (Ah (Ac ?_)));refine Bi (Bj 1100 (specl1Once _) U U U (.tm U) U U (.cons (.const U) U .nil) (fun _=>rfl) (fun _=>rfl)) ?_
 rintro _ ⟨z11,hz11,rfl⟩
 try dsimp only at hz11
 refine Aa (Aq (.tm U) (fun h11=>?_) (fun h11=>?_))
 · try simp at h11
   refine A4 (σ':=⟨_,[(0,_),(2,_),(3,_),(4,_),(5,_)],[(888888,_),(2,_),(3,_),(700,_),(701,_),(4,_),(900,_),(901,_),(5,_)]⟩) Ai ?_;refine Ae (Ac ?_);refine Bi (Bj 1300 (specl3AnyD) U U U (.tm U) U U .nil (fun _=>rfl) (fun _=>rfl)) ?_
   rintro _ ⟨z13,hz13,rfl⟩
   try dsimp only at hz13
   refine A5 (Au U U U (.tm U) (.tm U) U Bu U U U (by kernel_rfl) U) ?_;refine Aa (Af (Ah (Ac ?_)));refine Bi (Bj 1500 (specl1Once _) U U U (.tm U) U U (.cons (.const U) U .nil) (fun _=>rfl) (fun _=>rfl)) ?_
   rintro _ ⟨z15,hz15,rfl⟩
   try dsimp only at hz15
   refine Aa (Aq (.tm U) (fun h15=>?_) (fun h15=>?_))
   · try simp at h15
     refine Ae (Ac ?_);refine Bi (Bj 1700 (specl11AnyD) U U U (.tm U) U U .nil (fun _=>rfl) (fun _=>rfl)) ?_
     rintro _ ⟨z17,hz17,rfl⟩
     try dsimp only at hz17
     refine A5 (Au U U U (.tm U) (.tm U) U Br U U U (by kernel_rfl) U) ?_;refine Aa (Af (A4 (σ':=⟨_,[(0,_),(2,_),(3,_),(4,_),(5,_)],[(888888,_),(2,_),(3,_),(700,_),(701,_),(4,_),(900,_),(901,_),(5,_),(1300,_),(1301,_),(1700,_),(1701,_)]⟩) Ai ?_));refine AW.dagn 4 6 [[],[0],[1],[0,1],[0,2],[0,1,2],[0,1,2,3]] [(0,0,1),(0,1,2),(1,1,3),(2,0,3),(1,2,4),(3,2,5),(4,1,5),(5,3,6)] (by kernel_rfl) (by kernel_rfl) (by kernel_rfl) ?_;apply Bb (i:=0)
     case ha|ho|hb=>rfl
     case hE=>
      intro w9;refine Ab (Al U (.no U) U (.tm U) U Bu U U) U ?_;exact Aa (Ai (σ':=⟨_,[(0,_),(2,_),(3,_),(4,_),(5,_),(18,_)],[(888888,_),(2,_),(3,_),(700,_),(701,_),(4,_),(900,_),(901,_),(5,_),(1300,_),(1301,_),(1700,_),(1701,_)]⟩))
     apply Bb (i:=1)
     case ha|ho|hb=>rfl
     case hE=>
      intro w9;refine Ab (Al U (.no U) U (.tm U) U Br U U) U ?_;exact Aa (Ai (σ':=⟨_,[(0,_),(2,_),(3,_),(4,_),(5,_),(19,_)],[(888888,_),(2,_),(3,_),(700,_),(701,_),(4,_),(900,_),(901,_),(5,_),(1300,_),(1301,_),(1700,_),(1701,_)]⟩))
     apply Bb (i:=1)
     case ha|ho|hb=>rfl
     case hE=>
      intro w9;refine Ab (Al U (.no U) U (.tm U) U Br U U) U ?_;exact Aa (Ai (σ':=⟨_,[(0,_),(2,_),(3,_),(4,_),(5,_),(18,_),(19,_)],[(888888,_),(2,_),(3,_),(700,_),(701,_),(4,_),(900,_),(901,_),(5,_),(1300,_),(1301,_),(1700,_),(1701,_)]⟩))
     apply Bc (i:=0)
     case ha|ho|hb=>rfl
     case hE=>
      intro w9;refine Ab (Al U (.no U) U (.tm U) U Bu U U) U ?_;exact Aa Ai
     apply Bb (i:=2)
     case ha|ho|hb=>rfl
     case hE=>
      intro w9;refine A5 (Au U U U (.tm U) (.tm U) U Bu U U U (by kernel_rfl) U) ?_;exact Aa (Ai (σ':=⟨_,[(0,_),(2,_),(3,_),(4,_),(5,_)],[(888888,_),(2,_),(3,_),(700,_),(701,_),(4,_),(900,_),(901,_),(5,_),(1300,_),(1301,_),(1700,_),(1701,_)]⟩))
     apply Bb (i:=2)
     case ha|ho|hb=>rfl
     case hE=>
      intro w9;refine A5 (Au U U U (.tm U) (.tm U) U Bu U U U (by kernel_rfl) U) ?_;exact Aa (Ai (σ':=⟨_,[(0,_),(2,_),(3,_),(4,_),(5,_),(19,_)],[(888888,_),(2,_),(3,_),(700,_),(701,_),(4,_),(900,_),(901,_),(5,_),(1300,_),(1301,_),(1700,_),(1701,_)]⟩))
     apply Bc (i:=1)
     case ha|ho|hb=>rfl
     case hE=>
      intro w9;refine Ab (Al U (.no U) U (.tm U) U Br U U) U ?_;exact Aa Ai
     apply Bb (i:=3)
     case ha|ho|hb=>rfl
     case hE=>
      intro w9;refine A5 (Au U U U (.tm U) (.tm U) U Br U U U (by kernel_rfl) U) ?_;exact Aa (Ai (σ':=⟨_,[(0,_),(2,_),(3,_),(4,_),(5,_)],[(888888,_),(2,_),(3,_),(700,_),(701,_),(4,_),(900,_),(901,_),(5,_),(1300,_),(1301,_),(1700,_),(1701,_)]⟩))
     refine Dag.fin (k:=6) U ?_;refine Aa (A3 ?_);apply DRes.mk (x:=(z13,z17)) rfl
     case h=>
      refine Cv U (.cell U U Bu U U (.cell U U Br U U .nil)) U ?_ (by simp)
      rfl
     case hp=>exact trivial
   · try simp at h15
     refine As (Af (AW.dagn 4 6 [[],[0],[1],[0,1],[0,2],[0,1,2],[0,1,2,3]] [(0,0,1),(0,1,2),(1,1,3),(2,0,3),(1,2,4),(3,2,5),(4,1,5),(5,3,6)] (by kernel_rfl) (by kernel_rfl) (by kernel_rfl) ?_));apply Bb (i:=0)
     case ha|ho|hb=>rfl
     case hE=>
      intro w9;refine Ab (Al U (.no U) U (.tm U) U Bu U U) U ?_;exact Aa (Ai (σ':=⟨_,[(0,_),(2,_),(3,_),(4,_),(5,_),(15,_),(18,_)],[(888888,_),(2,_),(3,_),(700,_),(701,_),(4,_),(900,_),(901,_),(5,_),(1300,_),(1301,_)]⟩))
     apply Bb (i:=1)
     case ha|ho|hb=>rfl
     case hE=>
      intro w9;refine Ab (Al U (.no U) U (.tm U) U Br U U) U ?_;exact Aa (Ai (σ':=⟨_,[(0,_),(2,_),(3,_),(4,_),(5,_),(15,_),(19,_)],[(888888,_),(2,_),(3,_),(700,_),(701,_),(4,_),(900,_),(901,_),(5,_),(1300,_),(1301,_)]⟩))
     apply Bb (i:=1)
     case ha|ho|hb=>rfl
     case hE=>
      intro w9;refine Ab (Al U (.no U) U (.tm U) U Br U U) U ?_;exact Aa (Ai (σ':=⟨_,[(0,_),(2,_),(3,_),(4,_),(5,_),(15,_),(18,_),(19,_)],[(888888,_),(2,_),(3,_),(700,_),(701,_),(4,_),(900,_),(901,_),(5,_),(1300,_),(1301,_)]⟩))
     apply Bc (i:=0)
     case ha|ho|hb=>rfl
     case hE=>
      intro w9;refine Ab (Al U (.no U) U (.tm U) U Bu U U) U ?_;exact Aa Ai
     apply Bb (i:=2)
     case ha|ho|hb=>rfl
     case hE=>
      intro w9;refine A5 (Au U U U (.tm U) (.tm U) U Bu U U U (by kernel_rfl) U) ?_;exact Aa (Ai (σ':=⟨_,[(0,_),(2,_),(3,_),(4,_),(5,_),(15,_)],[(888888,_),(2,_),(3,_),(700,_),(701,_),(4,_),(900,_),(901,_),(5,_),(1300,_),(1301,_)]⟩))
     apply Bb (i:=2)
     case ha|ho|hb=>rfl
     case hE=>
      intro w9;refine A5 (Au U U U (.tm U) (.tm U) U Bu U U U (by kernel_rfl) U) ?_;exact Aa (Ai (σ':=⟨_,[(0,_),(2,_),(3,_),(4,_),(5,_),(15,_),(19,_)],[(888888,_),(2,_),(3,_),(700,_),(701,_),(4,_),(900,_),(901,_),(5,_),(1300,_),(1301,_)]⟩))
     apply Bc (i:=1)
     case ha|ho|hb=>rfl
     case hE=>
      intro w9;refine Ab (Al U (.no U) U (.tm U) U Br U U) U ?_;exact Aa Ai
     apply Bb (i:=3)
     case ha|ho|hb=>rfl
     case hE=>
      intro w9;refine A5 (Au U U U (.tm U) (.tm U) U Br U U U (by kernel_rfl) U) ?_;exact Aa (Ai (σ':=⟨_,[(0,_),(2,_),(3,_),(4,_),(5,_),(15,_)],[(888888,_),(2,_),(3,_),(700,_),(701,_),(4,_),(900,_),(901,_),(5,_),(1300,_),(1301,_)]⟩))
     refine Dag.fin (k:=6) U ?_;refine Aa (A3 ?_);apply DRes.mk (x:=(z13,z9)) rfl
     case h=>
      refine Cv U (.cell U U Bu U U (.cell U U Br U U .nil)) U ?_ (by simp)
      rfl
     case hp=>exact trivial
 · try simp at h11
   refine As (Af (Af (A4 (σ':=⟨_,[(0,_),(2,_),(3,_),(4,_),(5,_)],[(888888,_),(2,_),(3,_),(700,_),(701,_),(4,_),(900,_),(901,_),(5,_)]⟩) Ai ?_)));refine Ae (Ac ?_);refine Bi (Bj 1500 (specl1Once _) U U U (.tm U) U U (.cons (.const U) U .nil) (fun _=>rfl) (fun _=>rfl)) ?_
   rintro _ ⟨z15,hz15,rfl⟩
   try dsimp only at hz15
   refine Aa (Aq (.tm U) (fun h15=>?_) (fun h15=>?_))
   · try simp at h15
     refine Ae (Ac ?_);refine Bi (Bj 1700 (specl11AnyD) U U U (.tm U) U U .nil (fun _=>rfl) (fun _=>rfl)) ?_
     rintro _ ⟨z17,hz17,rfl⟩
     try dsimp only at hz17
     refine A5 (Au U U U (.tm U) (.tm U) U Br U U U (by kernel_rfl) U) ?_;refine Aa (Af (AW.dagn 4 6 [[],[0],[1],[0,1],[0,2],[0,1,2],[0,1,2,3]] [(0,0,1),(0,1,2),(1,1,3),(2,0,3),(1,2,4),(3,2,5),(4,1,5),(5,3,6)] (by kernel_rfl) (by kernel_rfl) (by kernel_rfl) ?_));apply Bb (i:=0)
     case ha|ho|hb=>rfl
     case hE=>
      intro w9;refine Ab (Al U (.no U) U (.tm U) U Bu U U) U ?_;exact Aa (Ai (σ':=⟨_,[(0,_),(2,_),(3,_),(4,_),(5,_),(15,_),(18,_)],[(888888,_),(2,_),(3,_),(700,_),(701,_),(4,_),(900,_),(901,_),(5,_),(1700,_),(1701,_)]⟩))
     apply Bb (i:=1)
     case ha|ho|hb=>rfl
     case hE=>
      intro w9;refine Ab (Al U (.no U) U (.tm U) U Br U U) U ?_;exact Aa (Ai (σ':=⟨_,[(0,_),(2,_),(3,_),(4,_),(5,_),(15,_),(19,_)],[(888888,_),(2,_),(3,_),(700,_),(701,_),(4,_),(900,_),(901,_),(5,_),(1700,_),(1701,_)]⟩))
     apply Bb (i:=1)
     case ha|ho|hb=>rfl
     case hE=>
      intro w9;refine Ab (Al U (.no U) U (.tm U) U Br U U) U ?_;exact Aa (Ai (σ':=⟨_,[(0,_),(2,_),(3,_),(4,_),(5,_),(15,_),(18,_),(19,_)],[(888888,_),(2,_),(3,_),(700,_),(701,_),(4,_),(900,_),(901,_),(5,_),(1700,_),(1701,_)]⟩))
     apply Bc (i:=0)
     case ha|ho|hb=>rfl
     case hE=>
      intro w9;refine Ab (Al U (.no U) U (.tm U) U Bu U U) U ?_;exact Aa Ai
     apply Bb (i:=2)
     case ha|ho|hb=>rfl
     case hE=>
      intro w9;refine A5 (Au U U U (.tm U) (.tm U) U Bu U U U (by kernel_rfl) U) ?_;exact Aa (Ai (σ':=⟨_,[(0,_),(2,_),(3,_),(4,_),(5,_),(15,_)],[(888888,_),(2,_),(3,_),(700,_),(701,_),(4,_),(900,_),(901,_),(5,_),(1700,_),(1701,_)]⟩))
     apply Bb (i:=2)
     case ha|ho|hb=>rfl
     case hE=>
      intro w9;refine A5 (Au U U U (.tm U) (.tm U) U Bu U U U (by kernel_rfl) U) ?_;exact Aa (Ai (σ':=⟨_,[(0,_),(2,_),(3,_),(4,_),(5,_),(15,_),(19,_)],[(888888,_),(2,_),(3,_),(700,_),(701,_),(4,_),(900,_),(901,_),(5,_),(1700,_),(1701,_)]⟩))
     apply Bc (i:=1)
     case ha|ho|hb=>rfl
     case hE=>
      intro w9;refine Ab (Al U (.no U) U (.tm U) U Br U U) U ?_;exact Aa Ai
     apply Bb (i:=3)
     case ha|ho|hb=>rfl
     case hE=>
      intro w9;refine A5 (Au U U U (.tm U) (.tm U) U Br U U U (by kernel_rfl) U) ?_;exact Aa (Ai (σ':=⟨_,[(0,_),(2,_),(3,_),(4,_),(5,_),(15,_)],[(888888,_),(2,_),(3,_),(700,_),(701,_),(4,_),(900,_),(901,_),(5,_),(1700,_),(1701,_)]⟩))
     refine Dag.fin (k:=6) U ?_;refine Aa (A3 ?_);apply DRes.mk (x:=(z7,z17)) rfl
     case h=>
      refine Cv U (.cell U U Bu U U (.cell U U Br U U .nil)) U ?_ (by simp)
      rfl
     case hp=>exact trivial
   · try simp at h15
     refine As (Af (AW.dagn 4 6 [[],[0],[1],[0,1],[0,2],[0,1,2],[0,1,2,3]] [(0,0,1),(0,1,2),(1,1,3),(2,0,3),(1,2,4),(3,2,5),(4,1,5),(5,3,6)] (by kernel_rfl) (by kernel_rfl) (by kernel_rfl) ?_));apply Bb (i:=0)
     case ha|ho|hb=>rfl
     case hE=>
      intro w9;refine Ab (Al U (.no U) U (.tm U) U Bu U U) U ?_;exact Aa (Ai (σ':=⟨_,[(0,_),(2,_),(3,_),(4,_),(5,_),(15,_),(18,_)],[(888888,_),(2,_),(3,_),(700,_),(701,_),(4,_),(900,_),(901,_),(5,_)]⟩))
     apply Bb (i:=1)
     case ha|ho|hb=>rfl
     case hE=>
      intro w9;refine Ab (Al U (.no U) U (.tm U) U Br U U) U ?_;exact Aa (Ai (σ':=⟨_,[(0,_),(2,_),(3,_),(4,_),(5,_),(15,_),(19,_)],[(888888,_),(2,_),(3,_),(700,_),(701,_),(4,_),(900,_),(901,_),(5,_)]⟩))
     apply Bb (i:=1)
     case ha|ho|hb=>rfl
     case hE=>
      intro w9;refine Ab (Al U (.no U) U (.tm U) U Br U U) U ?_;exact Aa (Ai (σ':=⟨_,[(0,_),(2,_),(3,_),(4,_),(5,_),(15,_),(18,_),(19,_)],[(888888,_),(2,_),(3,_),(700,_),(701,_),(4,_),(900,_),(901,_),(5,_)]⟩))
     apply Bc (i:=0)
     case ha|ho|hb=>rfl
     case hE=>
      intro w9;refine Ab (Al U (.no U) U (.tm U) U Bu U U) U ?_;exact Aa Ai
     apply Bb (i:=2)
     case ha|ho|hb=>rfl
     case hE=>
      intro w9;refine A5 (Au U U U (.tm U) (.tm U) U Bu U U U (by kernel_rfl) U) ?_;exact Aa (Ai (σ':=⟨_,[(0,_),(2,_),(3,_),(4,_),(5,_),(15,_)],[(888888,_),(2,_),(3,_),(700,_),(701,_),(4,_),(900,_),(901,_),(5,_)]⟩))
     apply Bb (i:=2)
     case ha|ho|hb=>rfl
     case hE=>
      intro w9;refine A5 (Au U U U (.tm U) (.tm U) U Bu U U U (by kernel_rfl) U) ?_;exact Aa (Ai (σ':=⟨_,[(0,_),(2,_),(3,_),(4,_),(5,_),(15,_),(19,_)],[(888888,_),(2,_),(3,_),(700,_),(701,_),(4,_),(900,_),(901,_),(5,_)]⟩))
     apply Bc (i:=1)
     case ha|ho|hb=>rfl
     case hE=>
      intro w9;refine Ab (Al U (.no U) U (.tm U) U Br U U) U ?_;exact Aa Ai
     apply Bb (i:=3)
     case ha|ho|hb=>rfl
     case hE=>
      intro w9;refine A5 (Au U U U (.tm U) (.tm U) U Br U U U (by kernel_rfl) U) ?_;exact Aa (Ai (σ':=⟨_,[(0,_),(2,_),(3,_),(4,_),(5,_),(15,_)],[(888888,_),(2,_),(3,_),(700,_),(701,_),(4,_),(900,_),(901,_),(5,_)]⟩))
     refine Dag.fin (k:=6) U ?_;refine Aa (A3 ?_);apply DRes.mk (x:=(z7,z9)) rfl
     case h=>
      refine Cv U (.cell U U Bu U U (.cell U U Br U U .nil)) U ?_ (by simp)
      rfl
     case hp=>exact trivial
theorem specDrawProductComponents (bs:List Int) (hb:∀ n∈bs,0≤n∧n<256):FrX Tryz.prog 42 [.one (.sl 1 (byR bs))] (fun _:TGraph×TAutomaton=>True) pairOut:=by
 refine FrX.walk Tryz.func42 rfl (by kernel_rfl) Tryz.ntmps42 rfl fun w0=>?_
 refine Ah (Bh (Bl 2 U U U in45 U U U) U ?_);refine Bh (Bl 3 U U U in36 U U U) U ?_;refine Aa (Ah (Ac ?_));refine Bi (R_calln 888888 (specl1New) U U U (.tm U) (by assumption) U) ?_
 rintro _ ⟨g,rfl⟩
 refine Bi (Bj 900 (specl14PairD) U U U (.tm U) U U .nil (fun _=>rfl) (fun _=>rfl)) ?_
 rintro _ ⟨z9,hz9,rfl⟩
 try dsimp only at hz9
 refine Ab (R_movet U (.no U) U U fun _=>rfl) U ?_;refine Ab (Cn U (.no U) U U (fun _=>rfl) U) U ?_;refine Ab (Cn U (.no U) U U (fun _=>rfl) U) U ?_;refine Bh (Bl 4 U U U in45 U U U) U ?_;refine Bh (Bl 5 U U U in36 U U U) U ?_;refine A5 (Au U U U (.tm U) (.tm U) U Bu U U U (by kernel_rfl) U) ?_;refine Bq (σ':=⟨_,[(0,_),(2,_),(3,_),(4,_),(5,_),(11,_)],[(2,_),(3,_),(888888,_),(900,_),(901,_),(902,_),(903,_),(4,_),(5,_)]⟩) Ai ?_;refine A5 (Au U U U (.tm U) (.tm U) U Br U U U (by kernel_rfl) U) ?_;refine Aa (Af (AW.dagn 4 6 [[],[0],[1],[0,1],[0,2],[0,1,2],[0,1,2,3]] [(0,0,1),(0,1,2),(1,1,3),(2,0,3),(1,2,4),(3,2,5),(4,1,5),(5,3,6)] (by kernel_rfl) (by kernel_rfl) (by kernel_rfl) ?_));apply Bb (i:=0)
 case ha|ho|hb=>rfl
 case hE=>
  intro w9;refine Ab (Al U (.no U) U (.tm U) U Bu U U) U ?_;exact Aa (Ai (σ':=⟨_,[(0,_),(2,_),(3,_),(4,_),(5,_),(12,_)],[(2,_),(3,_),(888888,_),(900,_),(901,_),(902,_),(903,_),(4,_),(5,_)]⟩))
 apply Bb (i:=1)
 case ha|ho|hb=>rfl
 case hE=>
  intro w9;refine Ab (Al U (.no U) U (.tm U) U Br U U) U ?_;exact Aa (Ai (σ':=⟨_,[(0,_),(2,_),(3,_),(4,_),(5,_),(13,_)],[(2,_),(3,_),(888888,_),(900,_),(901,_),(902,_),(903,_),(4,_),(5,_)]⟩))
 apply Bb (i:=1)
 case ha|ho|hb=>rfl
 case hE=>
  intro w9;refine Ab (Al U (.no U) U (.tm U) U Br U U) U ?_;exact Aa (Ai (σ':=⟨_,[(0,_),(2,_),(3,_),(4,_),(5,_),(12,_),(13,_)],[(2,_),(3,_),(888888,_),(900,_),(901,_),(902,_),(903,_),(4,_),(5,_)]⟩))
 apply Bc (i:=0)
 case ha|ho|hb=>rfl
 case hE=>
  intro w9;refine Ab (Al U (.no U) U (.tm U) U Bu U U) U ?_;exact Aa Ai
 apply Bb (i:=2)
 case ha|ho|hb=>rfl
 case hE=>
  intro w9;refine A5 (Au U U U (.tm U) (.tm U) U Bu U U U (by kernel_rfl) U) ?_;exact Aa (Ai (σ':=⟨_,[(0,_),(2,_),(3,_),(4,_),(5,_)],[(2,_),(3,_),(888888,_),(900,_),(901,_),(902,_),(903,_),(4,_),(5,_)]⟩))
 apply Bb (i:=2)
 case ha|ho|hb=>rfl
 case hE=>
  intro w9;refine A5 (Au U U U (.tm U) (.tm U) U Bu U U U (by kernel_rfl) U) ?_;exact Aa (Ai (σ':=⟨_,[(0,_),(2,_),(3,_),(4,_),(5,_),(13,_)],[(2,_),(3,_),(888888,_),(900,_),(901,_),(902,_),(903,_),(4,_),(5,_)]⟩))
 apply Bc (i:=1)
 case ha|ho|hb=>rfl
 case hE=>
  intro w9;refine Ab (Al U (.no U) U (.tm U) U Br U U) U ?_;exact Aa Ai
 apply Bb (i:=3)
 case ha|ho|hb=>rfl
 case hE=>
  intro w9;refine A5 (Au U U U (.tm U) (.tm U) U Br U U U (by kernel_rfl) U) ?_;exact Aa (Ai (σ':=⟨_,[(0,_),(2,_),(3,_),(4,_),(5,_)],[(2,_),(3,_),(888888,_),(900,_),(901,_),(902,_),(903,_),(4,_),(5,_)]⟩))
 refine Dag.fin (k:=6) U ?_;refine Aa (A3 ?_);apply ERRes.mk (x:=z9)
 case h=>
  refine ResR.many U (.cell U U Bu U U (.cell U U Br U U .nil)) U ?_ (by simp)
  rfl
 case hp=>exact trivial
end Go.Proofs.YtbecibmlbiebeaaGreat
