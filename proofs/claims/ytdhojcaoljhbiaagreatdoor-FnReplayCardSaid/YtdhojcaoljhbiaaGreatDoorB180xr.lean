import Derived.Test.YtdhojcaoljhbiaaGreatDoorJxr
import Derived.Test.YtdhojcaoljhbiaaGreatDoorB140xr
import Derived.Test.YtdhojcaoljhbiaaGreatDoorStdxr
import Derived.Test.YtdhojcaoljhbiaaGreatDoorAbsWxr
set_option linter.unusedVariables false
set_option linter.unusedSimpArgs false
set_option maxRecDepth 100000
set_option maxHeartbeats 1000000
set_option maxRecDepth 100000
namespace Go.Q
open Go.RowKit Go.D
theorem validG_pos {g:TGraph} (h:validG g=true):0<g.Values.length:=by
 unfold validG inB at h
 simp only [Bool.and_eq_true,decide_eq_true_eq] at h
 omega
theorem goodH_okHs {h:THistory} (hh:goodH h):okHs h:=⟨hh.2.1,fun g hg=>by have:=validG_z (hh.2.2 g hg);omega⟩
theorem set_okHs {z:JZ} {k:Nat} {g:TGraph} (hh:okHs z.his) (hg:g.Values.length≤1048576∧g.Edges.length≤1048576):okHs ⟨z.First,(z.R.set (z.j+k) g).drop z.j⟩:=by
 have e:(z.R.set (z.j+k) g).drop z.j=(z.R.drop z.j).set k g:=by
  apply List.ext_getElem?;intro i
  simp only [List.getElem?_drop,List.getElem?_set,List.length_drop]
  by_cases h:k=i
  · subst h
    simp
    split<;>simp_all<;>omega
  rw [if_neg (by omega),if_neg h]
 refine⟨?_,fun x hx=>?_⟩
 · show ((z.R.set (z.j+k) g).drop z.j).length≤8
   rw [e,List.length_set]
   exact hh.1
 have hx:x∈(z.R.set (z.j+k) g).drop z.j:=hx
 rw [e] at hx
 rcases List.mem_or_eq_of_mem_set hx with hx|rfl
 · exact hh.2 x hx
 exact hg
def repOut (z:THistory×ByteArray):V:=.tup [.agg (cHistory z.1),.one (.v (.string z.2))]
end Go.Q
namespace Go.Proofs.YtdhojcaoljhbiaaGreatDoor
open Go.RowKit Go.Q Go.D
theorem specl3AnyB:FnD Tryz.prog 45 [] (fun g:TGraph=>g.Values.length≤1048576∧g.Edges.length≤1048576) (fun g=>.a (.agg (cGraph g))):=by
 refine FnD.walk Tryz.func45 U (by kernel_rfl) Tryz.ntmps45 U (fun g=>rfl) fun w0 g=>?_
 refine Af (Au (Az 2 U U U Cj U U U) U ?_);refine Aa (Af (Ab ?_));refine Bi (Bj 500 (specl3GraphV) U U U (.tm U) U U .nil (fun _=>rfl) (fun _=>rfl)) ?_
 rintro _ ⟨z5,hz5,rfl⟩
 try dsimp only at hz5
 refine Au (Az 3 U U U Cj U U U) U ?_;refine An A9 ?_;refine Aa (Ae (Af (Ab ?_)));refine Bi (Bj 700 (specl1Below _) U U U (.tm U) U U (.cons (.const U) U .nil) (fun _=>rfl) (fun _=>rfl)) ?_
 rintro _ ⟨z7,hz7,rfl⟩
 try dsimp only at hz7
 refine Aa (AW.block (Af (Ck ?_)));refine Ah ?_;refine Aa (Al (.tm U) (fun h8=>?_) (fun h8=>?_))
 · try simp at h8
   have hvz:=validG_z hz5
   obtain⟨v0,hv0⟩:∃ ξ,z5.Values[0]?=some ξ:=⟨_,List.getElem?_eq_getElem (validG_pos hz5)⟩
   refine Ar (Av [0,2,3,4,5,6,7,8,9] [888888,2,500,501,3]) ?_;apply C3 (N:=5) (k:=2) (Hs:=[0,1,2]) (ms:=[[],[3],[3,4]]) (es:=[(0,3,1),(1,4,2)]) (σ1:=_) (SM:=⟨_,[(0,_),(2,_),(3,_),(4,_),(5,_),(6,_),(7,_),(8,_),(9,_),(10,_),(11,_),(12,_)],[(888888,_),(2,_),(500,_),(501,_),(3,_)]⟩)
   case hm=>kernel_rfl
   case hB=>kernel_rfl
   case hP=>kernel_rfl
   case hL=>kernel_rfl
   case hN=>rfl
   case hpre=>
    apply As (P:=Tryz.prog) 0 rfl ((Bk rfl (.no rfl) rfl (.tm rfl) Cu)) (by exact .pp) rfl rfl rfl;apply As (P:=Tryz.prog) 1 rfl ((by exact Bm rfl (.no rfl) rfl (.tm rfl) rfl Dm rfl rfl)) (by exact HasV.load (x:=.tmp 10) (.tm rfl) rfl Dm rfl rfl) rfl rfl rfl;apply As (P:=Tryz.prog) 2 rfl (Bh rfl (.no rfl) rfl (.tm rfl)) (by exact HasV.slot (t:=0) rfl) rfl rfl rfl;exact PreOk.nil
   case hS=>exact A4
   case hH=>
    refine LocsH.fq Cu ?_;refine LocsH.lq Dm ?_;refine LocsH.mv ?_
    trivial
   apply Dh.new0 (i:=3);rfl;rfl;rfl
   · intro w9 _;refine Ac (R_listz (xs:=[.const (.int .i64 (-1)),.const (.int .i64 (3)),.const (.int .i64 (2))]) (rows:=[cInt (-1),cInt 3,cInt 2]) U U U (.cons (.const U) U U (.cons (.const U) U U (.cons (.const U) U U .nil))) Tryz.underlying34 in3 U U (U)) U ?_;exact Ak [0,2,3,4,5,6,7,8,9,10,11,12,13] [888888,2,500,501,3]
   intros;exact A4
   apply Dh.drw0 (i:=4)
   case ha=>rfl
   case ho=>rfl
   case hE=>
    intro  hp
    obtain _:=hp
    exact Bj 1400 (specl1PickInt [-1,3,2] (by decide)) rfl rfl rfl (.tm rfl) rfl rfl (.cons (.tm rfl) rfl .nil) (fun _=>rfl) (fun _=>rfl)
   case hb=>rfl
   case hL=>
    intro  z14 hp hy;exact C7 (Av [0,2,3,4,5,6,7,8,9,10,11,12,14] [888888,2,500,501,3]) U
   case hS=>intros;exact A4
   refine Dh.fin1 (k:=2) rfl ?_;intro z14 hp
   obtain⟨_,hz14⟩:=hp
   refine Ac (C2 U (.no U) U (.tm U) U (.const U) Tryz.underlying34 ty3 (fun _=>⟨by omega,(A5 hv0)⟩)) U ?_;refine AWl.absupd (R_store_pr U U U (.tm U) U (.tm U) U (A5 hv0) ty3 U U U U) ?_;refine Aa (Ae (Ar (Av [0,2,3,7] [888888,2,500,501,3]) ?_));refine Ad (Ai A9 ?_);refine An A9 ?_;refine Aa (Ap ?_);apply DRes.mk (x:=⟨z5.Values.set 0 z14,z5.Edges⟩) rfl
   case h=>
    refine Res.one U (.cell U U A9 U U .nil) U ?_
    (refine congrArg (fun r=>[V0.agg [.sl 1 r,.sl 4 (z5.Edges.map cEdge)]]) ?_;rw [List.map_set];rfl)
   case hp=>exact (by simp;omega)
 try simp at h8
 have hvz:=validG_z hz5
 refine Af (Ck ?_);refine Ah ?_;refine Aa (Al (.tm U) (fun h16=>?_) (fun h16=>?_))
 · try simp at h16
   refine Ar (Av [0,2,3,7] [888888,2,500,501,3]) ?_;refine Ar (Av [0,2,3,7] [888888,2,500,501,3]) ?_;apply C3 (N:=13) (k:=7) (Hs:=[0,1,2,5,7,9]) (ms:=[[],[3],[3,4],[3,4,6],[3,4,6,8],[3,4,6,8,10],[3,4,6,8,10,11],[3,4,6,8,10,11,12]]) (es:=[(0,3,1),(1,4,2),(2,6,3),(3,8,4),(4,10,5),(5,11,6),(6,12,7)]) (σ1:=_) (SM:=⟨_,[(0,_),(2,_),(3,_),(7,_),(18,_),(19,_),(20,_),(23,_),(25,_),(27,_)],[(888888,_),(2,_),(500,_),(501,_),(3,_)]⟩)
   case hm=>kernel_rfl
   case hB=>kernel_rfl
   case hP=>kernel_rfl
   case hL=>kernel_rfl
   case hN=>rfl
   case hpre=>
    apply As (P:=Tryz.prog) 0 rfl ((Bk rfl (.no rfl) rfl (.tm rfl) Ca)) (by exact .pp) rfl rfl rfl;apply As (P:=Tryz.prog) 1 rfl ((by exact Bm rfl (.no rfl) rfl (.tm rfl) rfl C6 rfl rfl)) (by exact HasV.load (x:=.tmp 18) (.tm rfl) rfl C6 rfl rfl) rfl rfl rfl;apply As (P:=Tryz.prog) 2 rfl (Bh rfl (.no rfl) rfl (.tm rfl)) (by exact HasV.slot (t:=0) rfl) rfl rfl rfl;apply As (P:=Tryz.prog) 5 rfl (Bh rfl (.no rfl) rfl (.tm rfl)) (by exact HasV.slot (t:=0) rfl) rfl rfl rfl;apply As (P:=Tryz.prog) 7 rfl (Bh rfl (.no rfl) rfl (.tm rfl)) (by exact HasV.slot (t:=0) rfl) rfl rfl rfl;apply As (P:=Tryz.prog) 9 rfl (Bh rfl (.no rfl) rfl (.tm rfl)) (by exact HasV.slot (t:=0) rfl) rfl rfl rfl;exact PreOk.nil
   case hS=>exact A4
   case hH=>
    refine LocsH.fq Ca ?_;refine LocsH.lq C6 ?_;refine LocsH.mv ?_;refine LocsH.mv ?_;refine LocsH.mv ?_;refine LocsH.mv ?_
    trivial
   apply Dh.new0 (i:=3);rfl;rfl;rfl
   · intro w9 _;refine Ac (R_listz (xs:=[.const (.int .i64 (0)),.const (.int .i64 (1)),.const (.int .i64 (99)),.const (.int .i64 (100))]) (rows:=[cInt 0,cInt 1,cInt 99,cInt 100]) U U U (.cons (.const U) U U (.cons (.const U) U U (.cons (.const U) U U (.cons (.const U) U U .nil)))) Tryz.underlying34 in3 U U (U)) U ?_;exact Ak [0,2,3,7,18,19,20,21,23,25,27] [888888,2,500,501,3]
   intros;exact A4
   apply Dh.drw0 (i:=4)
   case ha=>rfl
   case ho=>rfl
   case hE=>
    intro  hp
    obtain _:=hp
    exact Bj 2200 (specl1PickInt [0,1,99,100] (by decide)) rfl rfl rfl (.tm rfl) rfl rfl (.cons (.tm rfl) rfl .nil) (fun _=>rfl) (fun _=>rfl)
   case hb=>rfl
   case hL=>
    intro  z22 hp hy;exact C7 (Av [0,2,3,7,18,19,20,22,23,25,27] [888888,2,500,501,3]) U
   case hS=>intros;exact A4
   apply Dh.drw1 (i:=6)
   case ha=>rfl
   case ho=>rfl
   case hE=>
    intro z22 hp
    obtain⟨_,hz22⟩:=hp
    exact Bj 2400 (specl1Below _) rfl rfl rfl (.tm rfl) rfl rfl (.cons (.const rfl) rfl .nil) (fun _=>rfl) (fun _=>rfl)
   case hb=>rfl
   case hL=>
    intro z22 z24 hp hy;exact C7 (Av [0,2,3,7,18,19,20,22,23,24,25,27] [888888,2,500,501,3]) U
   case hS=>intros;exact A4
   apply Dh.drw2 (i:=8)
   case ha=>rfl
   case ho=>rfl
   case hE=>
    intro z22 z24 hp
    obtain⟨⟨_,hz22⟩,hz24⟩:=hp
    exact Bj 2600 (specl1Below _) rfl rfl rfl (.tm rfl) rfl rfl (.cons (.const rfl) rfl .nil) (fun _=>rfl) (fun _=>rfl)
   case hb=>rfl
   case hL=>
    intro z22 z24 z26 hp hy;exact C7 (Av [0,2,3,7,18,19,20,22,23,24,25,26,27] [888888,2,500,501,3]) U
   case hS=>intros;exact A4
   apply Dh.drw3 (i:=10)
   case ha=>rfl
   case ho=>rfl
   case hE=>
    intro z22 z24 z26 hp
    obtain⟨⟨⟨_,hz22⟩,hz24⟩,hz26⟩:=hp
    exact Bj 2800 (specl1Below _) rfl rfl rfl (.tm rfl) rfl rfl (.cons (.const rfl) rfl .nil) (fun _=>rfl) (fun _=>rfl)
   case hb=>rfl
   case hL=>
    intro z22 z24 z26 z28 hp hy;exact C7 (Av [0,2,3,7,18,19,20,22,23,24,25,26,27,28] [888888,2,500,501,3]) U
   case hS=>intros;exact A4
   apply Dh.new4 (i:=11);rfl;rfl;rfl
   · intro w9 z22 z24 z26 z28 hp
     obtain⟨⟨⟨⟨_,hz22⟩,hz24⟩,hz26⟩,hz28⟩:=hp
     refine Ac (Bw (ps:=[(0,.tmp 22),(1,.tmp 24),(2,.tmp 26),(3,.tmp 28)]) U U U C0 U U st101 (.cons (.tm U) U U fp101_0 (.cons (.tm U) U U fp101_1 (.cons (.tm U) U U fp101_2 (.cons (.tm U) U U fp101_3 .nil)))) U) U ?_;exact Ak [0,2,3,7,18,19,20,23,25,27,29] [888888,2,500,501,3]
   intros;exact A4
   apply Dh.new4 (i:=12);rfl;rfl;rfl
   · intro w9 z22 z24 z26 z28 hp
     obtain⟨⟨⟨⟨_,hz22⟩,hz24⟩,hz26⟩,hz28⟩:=hp
     refine Ac (R_listz (xs:=[.tmp 29]) (rows:=[cEdge ⟨z22,z24,z26,z28⟩]) U U U (.cons (.tm U) U U .nil) Tryz.underlying35 C0 U U (U)) U ?_;exact Ak [0,2,3,7,18,19,20,23,25,27,30] [888888,2,500,501,3]
   intros;exact A4
   refine Dh.fin4 (k:=7) rfl ?_;intro z22 z24 z26 z28 hp
   obtain⟨⟨⟨⟨_,hz22⟩,hz24⟩,hz26⟩,hz28⟩:=hp
   refine Ce (Cc U U U (.tm U) U (.tm U) (by exact .t) (by rfl) Tryz.underlying35 C0 U (by (simp [chunk];omega)) (by (unfold maxLen;simp [chunk];omega))) U ?_;refine Bf (Av [0,2,3,7,31] [888888,2,500,501,3]) ?_;refine A8 Ca ?_;refine An C6 ?_;refine Aa (Af (Ai A9 ?_));refine An A9 ?_;refine Aa (Ap ?_);apply DRes.mk (x:=⟨z5.Values,z5.Edges++[⟨z22,z24,z26,z28⟩]⟩) rfl
   case h=>
    refine Res.one U (.cell U U A9 U U .nil) U ?_
    (refine congrArg (fun r=>[V0.agg [.sl 1 (z5.Values.map cInt),.sl 4 r]]) ?_;rw [List.map_append];rfl)
   case hp=>exact (by simp;omega)
 try simp at h16
 refine Ae (Ar (Av [0,2,3,7] [888888,2,500,501,3]) ?_);refine Ad (Ck ?_);refine Ah ?_;refine Aa (Al (.tm U) (fun h33=>?_) (fun h33=>?_))
 · try simp at h33
   refine Ad (A8 Cu ?_);refine AWl.chgb (R_store_pb U U U (.tm U) (.const U) U Dm U U U (by kernel_rfl) U) ?_;refine AWl.nilB (b:=3) 29001 1 0 U U U ?_;refine Aa (Af (Ai A9 ?_));refine An A9 ?_;refine Aa (Ap ?_);apply DRes.mk (x:=⟨[],z5.Edges⟩) rfl
   case h=>
    refine Res.one U (.cell U U A9 U U .nil) U ?_
    rfl
   case hp=>exact (by simp;omega)
 try simp at h33
 refine Am (Af (Ai A9 ?_));refine An A9 ?_;refine Aa (Ap ?_);apply DRes.mk (x:=z5) rfl
 case h=>
  refine Res.one U (.cell U U A9 U U .nil) U ?_
  rfl
 case hp=>exact (by omega)
theorem specNewHistoryJ (g:TGraph) (v:Int) (hg:validG g=true) (h1:1≤v) (h4:v≤4):FnJ Tryz.prog 29 [.agg (cGraph g),.one (.v (.int .i64 v))] (fun z=>goodH z.his):=by
 refine FnJ.walk Tryz.func29 rfl (by kernel_rfl) Tryz.ntmps29 rfl fun w0=>?_
 have hz:=validG_z hg
 refine Af (Ac (Bx U U U (.tm U) (ts:=_) (by rfl)) U ?_);refine Au (Az 4 U U U C9 U U U) U ?_;refine Aj ?_;refine Aa (Af (Ab ?_));refine A3 A9 ?_;refine Bq (Cb 900 (specl3Copy g (by omega) (by omega)) U U U (.cons (.tm U) U .nil) U U) U ?_;refine Bd (B8 (xs:=[.tmp 9]) 10 U U U (.cons (.tm U) U U .nil) Tryz.underlying24 Cj U U U U) U ?_;refine Ac (Bw (ps:=[(0,.tmp 7),(1,.tmp 10)]) U U U C9 U U st26 (.cons (.tm U) U U fp26_0 (.cons (.tm U) U U fp26_1 .nil)) U) U ?_;refine Au (Az 6 U U U C9 U U U) U ?_;refine An Be ?_;refine Aa (Ae (Af (Ai Be ?_)));refine Br (specIsValidHistory ⟨v,[g]⟩) ?_;refine Cg ?_;refine Aa (Al (.tm U) (fun h14=>?_) (fun h14=>?_))
 · exact absurd h14 (by exact absurd (validH_one hg h1 h4) (by simpa using h14))
 try simp at h14
 refine Am (Af (Ai Be ?_));refine An Be ?_;refine Aj ?_;refine Aa (Ap (⟨⟨v,[g],0,true⟩,?_,ResJ.mk (i:=10) rfl (.cell rfl rfl Be rfl rfl (.tmp rfl .nil)) rfl (.inl ⟨rfl,rfl⟩) (by rfl)⟩));exact goodH_one hg
theorem specNewHistoryR (g:TGraph) (v:Int) (h1:g.Values.length≤1048576) (h2:g.Edges.length≤1048576):FrX Tryz.prog 29 [.agg (cGraph g),.one (.v (.int .i64 v))] (fun x=>okHs x.1) hOut:=by
 refine FrX.walk Tryz.func29 rfl (by kernel_rfl) Tryz.ntmps29 rfl fun w0=>?_
 refine Af (Ac (Bx U U U (.tm U) (ts:=_) (by rfl)) U ?_);refine Au (Az 4 U U U C9 U U U) U ?_;refine Aj ?_;refine Aa (Af (Ab ?_));refine A3 A9 ?_;refine Bq (Cb 900 (specl3Copy g (by omega) (by omega)) U U U (.cons (.tm U) U .nil) U U) U ?_;refine Bd (B8 (xs:=[.tmp 9]) 10 U U U (.cons (.tm U) U U .nil) Tryz.underlying24 Cj U U U U) U ?_;refine Ac (Bw (ps:=[(0,.tmp 7),(1,.tmp 10)]) U U U C9 U U st26 (.cons (.tm U) U U fp26_0 (.cons (.tm U) U U fp26_1 .nil)) U) U ?_;refine Au (Az 6 U U U C9 U U U) U ?_;refine An Be ?_;refine Aa (Ae (Af (Ai Be ?_)));refine Br (specIsValidHistory ⟨v,[g]⟩) ?_;refine Cg ?_;refine Aa (Al (.tm U) (fun h14=>?_) (fun h14=>?_))
 · try simp at h14
   refine Af (Ac (Bw (ps:=[]) U U U C9 U U st26 .nil U) U ?_);refine Cp (i:=15) 20001 2 1 U U U ?_;refine An Be ?_;refine Aj ?_;refine Aa (Ap ?_);apply ERRes.mk (x:=(⟨0,[]⟩,false))
   case h=>
    refine ResR.many U (.cell U U Be U U (.tmp U .nil)) U ?_ (by simp)
    rfl
   case hp=>exact⟨by simp,by simp⟩
 try simp at h14
 refine Am (Af (Ai Be ?_));refine An Be ?_;refine Aj ?_;refine Aa (Ap ?_);apply ERRes.mk (x:=(⟨v,[g]⟩,true))
 case h=>
  refine ResR.many U (.cell U U Be U U (.tmp U .nil)) U ?_ (by simp)
  rfl
 case hp=>exact⟨by simp,by simp;omega⟩
theorem specAppendBatchJ (h:THistory) (b:TBatch) (hh:goodH h):FnJ Tryz.prog 40 [.agg (cHistory h),.agg (cBatch b)] (fun z=>goodH z.his):=by
 refine FnJ.walk Tryz.func40 rfl (by kernel_rfl) Tryz.ntmps40 rfl fun w0=>?_
 obtain⟨x,hx⟩:∃ ξ,h.Graphs[h.Graphs.length-1]?=some ξ:=⟨_,List.getElem?_eq_getElem (by have:=hh.1;omega)⟩
 have hxv:=hh.2.2 x (List.mem_of_getElem? hx)
 have hxz:=validG_z hxv
 refine Af (Ac (Bx U U U (.tm U) (ts:=_) (by rfl)) U ?_);refine Ac (Bx U U U (.tm U) (ts:=_) (by rfl)) U ?_;refine Au (Az 4 U U U C9 U U U) U ?_;refine Aj ?_;refine Aa (Af (A3 Be ?_));refine Bq (Cb 1000 (specl7Copy h hh) U U U (.cons (.tm U) U .nil) U U) U ?_;refine Au (Az 6 U U U C9 U U U) U ?_;refine An Be ?_;refine Aa (Ae (Af (A3 Be ?_)));refine Br (specIsValidHistory h) ?_;refine Cg ?_;refine Ab ?_;refine Ac (Bl U (by exact .not1 U U U U) U (.tmp U (by exact fun _=>rfl)) Be U U) U ?_;refine Ac (R_callq U (by exact .not1 U U U U) U (.cons (.tmp U (by exact id)) U .nil) fun hq=>FnT.fr (specLatestVersion h)) U ?_;refine Ac (R_eq U (by exact .not1 U U U U) U (.tmp U (by exact id)) (.const U)) U ?_;refine Ci ?_;refine Aa (Al (.tm U) (fun h18=>?_) (fun h18=>?_))
 · try simp at h18
   refine Af (Ai Be ?_);refine An Be ?_;refine Aj ?_;refine Aa (Ap (⟨⟨h.First,h.Graphs,0,false⟩,?_,ResJ.mk (i:=1000) rfl (.cell rfl rfl Be rfl rfl (.tmp rfl .nil)) rfl (.inl ⟨rfl,rfl⟩) (by rfl)⟩));exact hh
 try simp at h18
 have hv:=validH_r (h:=h) (by revert h18;cases validH h<;>simp)
 refine Am (Ae (Ar (Av [0,1,2,3,4,5,6,9,10,11,12,13,14,15,16,17,18] [4,1000,6]) ?_));apply C3 (N:=15) (k:=13) (Hs:=[0,1,2,3,4,5,6,7,8]) (ms:=[[],[9],[13],[9,10],[9,13],[9,10,11],[9,10,12],[9,10,13],[9,10,11,12],[9,10,11,13],[9,10,12,13],[9,10,11,12,13],[9,10,11,13,14],[9,10,11,12,13,14]]) (es:=[(0,9,1),(0,13,2),(1,10,3),(1,13,4),(2,9,4),(3,11,5),(3,12,6),(3,13,7),(4,10,7),(5,12,8),(6,11,8),(5,13,9),(7,11,9),(6,13,10),(7,12,10),(8,13,11),(9,12,11),(10,11,11),(9,14,12),(11,14,13),(12,12,13)]) (σ1:=_) (SM:=⟨_,[(0,_),(1,_),(2,_),(3,_),(4,_),(5,_),(6,_),(9,_),(10,_),(11,_),(12,_),(13,_),(14,_),(15,_),(16,_),(17,_),(18,_),(21,_),(22,_),(23,_),(24,_),(25,_),(26,_),(27,_),(28,_),(29,_)],[(4,_),(1000,_),(6,_)]⟩)
 case hm=>kernel_rfl
 case hB=>kernel_rfl
 case hP=>kernel_rfl
 case hL=>kernel_rfl
 case hN=>rfl
 case hpre=>
  apply As (P:=Tryz.prog) 0 rfl ((by exact Bc rfl (.no rfl) rfl (.tm rfl) Bn)) (by exact HasV.ad (x:=.tmp 2) (.tm rfl)) rfl rfl rfl;apply As (P:=Tryz.prog) 1 rfl ((by exact Bl rfl (.no rfl) rfl (.tm rfl) Ch rfl rfl)) (by exact HasV.ld (x:=.tmp 21) (.tm rfl) rfl rfl) rfl rfl rfl;apply As (P:=Tryz.prog) 2 rfl ((by exact Bc rfl (.no rfl) rfl (.tm rfl) Bn)) (by exact HasV.ad (x:=.tmp 2) (.tm rfl)) rfl rfl rfl;apply As (P:=Tryz.prog) 3 rfl ((by exact Bl rfl (.no rfl) rfl (.tm rfl) Ch rfl rfl)) (by exact HasV.ld (x:=.tmp 23) (.tm rfl) rfl rfl) rfl rfl rfl;apply As (P:=Tryz.prog) 4 rfl ((by exact Cn rfl (.no rfl) rfl (.tm rfl) (by exact .t) Tryz.underlying24)) (by exact .val rfl) rfl rfl rfl;apply As (P:=Tryz.prog) 5 rfl (Dl rfl (.no rfl) rfl (.tm rfl) (.const rfl) (fun _=>by omega)) (by exact .val rfl) rfl rfl rfl
  apply As (P:=Tryz.prog) 6 rfl ((by exact Aw rfl (.no rfl) rfl (.tm rfl) (.tm rfl) Tryz.underlying24 A9 (fun _=>⟨by have:=hh.1;omega,A5 (by rw [←hx];congr 1;have:=hh.1;omega)⟩))) (by exact HasV.ix (x:=.tmp 22) (.tm rfl) (y:=.tmp 26) (.tm rfl) Tryz.underlying24 A9 (fun _=>⟨by have:=hh.1;omega,A5 (by rw [←hx];congr 1;have:=hh.1;omega)⟩)) rfl rfl rfl;apply As (P:=Tryz.prog) 7 rfl ((by exact Bl rfl (.no rfl) rfl (.tm rfl) A9 rfl rfl)) (by exact HasV.ld (x:=.tmp 27) (.tm rfl) rfl rfl) rfl rfl rfl;apply As (P:=Tryz.prog) 8 rfl ((by exact Bl rfl (.no rfl) rfl (.tm rfl) Cf rfl rfl)) (by exact HasV.ld (x:=.tmp 3) (.tm rfl) rfl rfl) rfl rfl rfl;exact PreOk.nil
 case hS=>exact A4
 case hH=>
  refine⟨⟨_,_,_,rfl,rfl,rfl,fun σ' hs=>(by exact Bc rfl (.no rfl) (Ag hs rfl) (.tm (hs.slots _ _ rfl)) Bn)⟩,?_⟩
  refine⟨⟨_,_,_,rfl,rfl,rfl,fun σ' hs=>(by exact Bl rfl (.no rfl) (Ag hs rfl) (.tm (hs.slots _ _ rfl)) Ch rfl rfl)⟩,?_⟩
  refine⟨⟨_,_,_,rfl,rfl,rfl,fun σ' hs=>(by exact Bc rfl (.no rfl) (Ag hs rfl) (.tm (hs.slots _ _ rfl)) Bn)⟩,?_⟩
  refine⟨⟨_,_,_,rfl,rfl,rfl,fun σ' hs=>(by exact Bl rfl (.no rfl) (Ag hs rfl) (.tm (hs.slots _ _ rfl)) Ch rfl rfl)⟩,?_⟩
  refine⟨⟨_,_,_,rfl,rfl,rfl,fun σ' hs=>(by exact Cn rfl (.no rfl) (Ag hs rfl) (.tm (hs.slots _ _ rfl)) (by exact .t) Tryz.underlying24)⟩,?_⟩
  refine⟨⟨_,_,_,rfl,rfl,rfl,fun σ' hs=>Dl rfl (.no rfl) (Ag hs rfl) (.tm (hs.slots _ _ rfl)) (.const rfl) (fun _=>by omega)⟩,?_⟩
  refine⟨⟨_,_,_,rfl,rfl,rfl,fun σ' hs=>(by exact Aw rfl (.no rfl) (Ag hs rfl) (.tm (hs.slots _ _ rfl)) (.tm (hs.slots _ _ rfl)) Tryz.underlying24 A9 (fun _=>⟨by have:=hh.1;omega,A5 (by rw [←hx];congr 1;have:=hh.1;omega)⟩))⟩,?_⟩
  refine⟨⟨_,_,_,rfl,rfl,rfl,fun σ' hs=>(Bl rfl (.no rfl) (Ag hs rfl) (.tm (hs.slots _ _ rfl)) A9 rfl rfl)⟩,?_⟩
  refine⟨⟨_,_,_,rfl,rfl,rfl,fun σ' hs=>(by exact Bl rfl (.no rfl) (Ag hs rfl) (.tm (hs.slots _ _ rfl)) Cf rfl rfl)⟩,?_⟩
  trivial
 apply Dh.new0 (i:=9);rfl;rfl;rfl
 · intro w9 _;refine Bq (Cb 3000 (specApplyBatch x b (by omega) (by omega)) U U U (.cons (.tm U) U (.cons (.tm U) U .nil)) U U) U ?_;exact Ak [0,1,2,3,4,5,6,9,10,11,12,13,14,15,16,17,18,21,22,23,24,25,26,27,28,29,30] [4,1000,6,3000,3001]
 intros;exact A4
 apply Dh.new0 (i:=13);rfl;rfl;rfl
 · intro w9 _;refine Au (Az 7 U U U Cj U U U) U ?_;exact Ak [0,1,2,3,4,5,6,7,9,10,11,12,13,14,15,16,17,18,21,22,23,24,25,26,27,28,29] [4,1000,6,7]
 intros;exact A4
 apply Dh.new0 (i:=10);rfl;rfl;rfl
 · intro w9 _;refine Ac (B7 U (.no U) U U fun _=>rfl) U ?_;exact Ak [0,1,2,3,4,5,6,9,10,11,12,13,14,15,16,17,18,20,21,22,23,24,25,26,27,28,29] [4,1000,6,3000,3001]
 intros;exact A4
 apply Dh.new0 (i:=13);rfl;rfl;rfl
 · intro w9 _;refine Au (Az 7 U U U Cj U U U) U ?_;exact Ak [0,1,2,3,4,5,6,7,9,10,11,12,13,14,15,16,17,18,21,22,23,24,25,26,27,28,29,30] [4,1000,6,3000,3001,7]
 intros;exact A4
 apply Dh.old0 (i:=9);rfl;rfl;rfl
 · intro w9 _;refine Bq (Cb 3000 (specApplyBatch x b (by omega) (by omega)) U U U (.cons (.tm U) U (.cons (.tm U) U .nil)) U U) U ?_;exact Aa Ay
 apply Dh.new0 (i:=11);rfl;rfl;rfl
 · intro w9 _;refine Ac (Ao U (.no U) U U (fun _=>rfl) U) U ?_;exact Ak [0,1,2,3,4,5,6,9,10,11,12,13,14,15,16,17,18,20,21,22,23,24,25,26,27,28,29,31] [4,1000,6,3000,3001]
 intros;exact A4
 apply Dh.new0 (i:=12);rfl;rfl;rfl
 · intro w9 _;refine Ac (Ao U (.no U) U U (fun _=>rfl) U) U ?_;exact Ak [0,1,2,3,4,5,6,9,10,11,12,13,14,15,16,17,18,20,21,22,23,24,25,26,27,28,29,32] [4,1000,6,3000,3001]
 intros;exact A4
 apply Dh.new0 (i:=13);rfl;rfl;rfl
 · intro w9 _;refine Au (Az 7 U U U Cj U U U) U ?_;exact Ak [0,1,2,3,4,5,6,7,9,10,11,12,13,14,15,16,17,18,20,21,22,23,24,25,26,27,28,29] [4,1000,6,3000,3001,7]
 intros;exact A4
 apply Dh.old0 (i:=10);rfl;rfl;rfl
 · intro w9 _;refine Ac (B7 U (.no U) U U fun _=>rfl) U ?_;exact Aa Ay
 apply Dh.new0 (i:=12);rfl;rfl;rfl
 · intro w9 _;refine Ac (Ao U (.no U) U U (fun _=>rfl) U) U ?_;exact Ak [0,1,2,3,4,5,6,9,10,11,12,13,14,15,16,17,18,21,22,23,24,25,26,27,28,29,31,32] [4,1000,6,3000,3001]
 intros;exact A4
 apply Dh.old0 (i:=11);rfl;rfl;rfl
 · intro w9 _;refine Ac (Ao U (.no U) U U (fun _=>rfl) U) U ?_;exact Aa Ay
 apply Dh.new0 (i:=13);rfl;rfl;rfl
 · intro w9 _;refine Au (Az 7 U U U Cj U U U) U ?_;exact Ak [0,1,2,3,4,5,6,7,9,10,11,12,13,14,15,16,17,18,20,21,22,23,24,25,26,27,28,29,31] [4,1000,6,3000,3001,7]
 intros;exact A4
 apply Dh.old0 (i:=11);rfl;rfl;rfl
 · intro w9 _;refine Ac (Ao U (.no U) U U (fun _=>rfl) U) U ?_;exact Aa Ay
 apply Dh.new0 (i:=13);rfl;rfl;rfl
 · intro w9 _;refine Au (Az 7 U U U Cj U U U) U ?_;exact Ak [0,1,2,3,4,5,6,7,9,10,11,12,13,14,15,16,17,18,20,21,22,23,24,25,26,27,28,29,32] [4,1000,6,3000,3001,7]
 intros;exact A4
 apply Dh.old0 (i:=12);rfl;rfl;rfl
 · intro w9 _;refine Ac (Ao U (.no U) U U (fun _=>rfl) U) U ?_;exact Aa Ay
 apply Dh.new0 (i:=13);rfl;rfl;rfl
 · intro w9 _;refine Au (Az 7 U U U Cj U U U) U ?_;exact Ak [0,1,2,3,4,5,6,7,9,10,11,12,13,14,15,16,17,18,21,22,23,24,25,26,27,28,29,31,32] [4,1000,6,3000,3001,7]
 intros;exact A4
 apply Dh.old0 (i:=12);rfl;rfl;rfl
 · intro w9 _;refine Ac (Ao U (.no U) U U (fun _=>rfl) U) U ?_;exact Aa Ay
 apply Dh.old0 (i:=11);rfl;rfl;rfl
 · intro w9 _;refine Ac (Ao U (.no U) U U (fun _=>rfl) U) U ?_;exact Aa Ay
 apply Dh.new0 (i:=14);rfl;rfl;rfl
 · intro w9 _;refine An A9 ?_;exact Ak [0,1,2,3,4,5,6,7,9,10,11,12,13,14,15,16,17,18,20,21,22,23,24,25,26,27,28,29] [4,1000,6,3000,3001,7]
 intros;exact A4
 apply Dh.new0 (i:=14);rfl;rfl;rfl
 · intro w9 _;refine An A9 ?_;exact Ak [0,1,2,3,4,5,6,7,9,10,11,12,13,14,15,16,17,18,21,22,23,24,25,26,27,28,29,32] [4,1000,6,3000,3001,7]
 intros;exact A4
 apply Dh.old0 (i:=12);rfl;rfl;rfl
 · intro w9 _;refine Ac (Ao U (.no U) U U (fun _=>rfl) U) U ?_;exact Aa Ay
 refine Dh.fin0 (k:=13) rfl ?_;intro  hp
 obtain _:=hp
 refine Ah ?_;refine Aa (Ae (Af (Ab ?_)));refine Cg ?_;refine Aa (Al (.tm U) (fun h34=>?_) (fun h34=>?_))
 · try simp at h34
   refine Af (Ai Be ?_);refine An Be ?_;refine Aj ?_;refine Aa (Ap (⟨⟨h.First,h.Graphs,0,false⟩,?_,ResJ.mk (i:=1000) rfl (.cell rfl rfl Be rfl rfl (.tmp rfl .nil)) rfl (.inl ⟨rfl,rfl⟩) (by rfl)⟩));exact hh
 try simp at h34
 refine Am (Af (A8 Bn ?_));refine Ai Ch ?_;refine Ai A9 ?_;refine Bd (B8 (xs:=[.tmp 38]) 39 U U U (.cons (.tm U) U U .nil) Tryz.underlying24 Cj U U U U) U ?_;refine Cq (Cw U U U (.tm U) U (.tm U) U U Tryz.underlying24 Cj U (by (simp [chunk];omega)) (by (unfold maxLen;simp [chunk];omega))) U ?_;refine A8 Bn ?_;refine An Ch ?_;refine Aa (Ae (Af (A8 Bn ?_)));refine Ai Ch ?_;refine Ac (R_len U (.no U) U (.tm U) (by exact .rf U) Tryz.underlying24) U ?_;refine Db ?_;refine Aa (Al (.tm U) (fun h45=>?_) (fun h45=>?_))
 · try simp at h45
   refine Af (A8 Bn ?_);refine Ai Ch ?_;refine Ac ((by exact R_slice_rf (m:=1) U (.no U) U (.tm U) U (.yes (.const U) (fun _=>by first|rfl|omega|(simp<;>omega))) Tryz.underlying24 A9 (fun _=>by simp [chunk]))) U ?_;refine A8 Bn ?_;refine An Ch ?_;refine Aa (Ad (A8 Dj ?_));refine Ai ty3 ?_;refine Bs ?_;refine A8 Dj ?_;refine An ty3 ?_;refine Aa (Af (Ai Be ?_));refine An Be ?_;refine Aj ?_;refine Aa (Ap (⟨⟨h.First+1,h.Graphs++[(applyB x b).1],1,true⟩,?_,ResJ.mk (i:=1000) rfl (.cell rfl rfl Be rfl rfl (.tmp rfl .nil)) rfl (.inr rfl) (by (simp [chunk,cGraph];done))⟩));exact goodH_shift hh (applyB_ok hxv)
 try simp at h45
 refine Am (Af (Ai Be ?_));refine An Be ?_;refine Aj ?_;refine Aa (Ap (⟨⟨h.First,h.Graphs++[(applyB x b).1],0,true⟩,?_,ResJ.mk (i:=1000) rfl (.cell rfl rfl Be rfl rfl (.tmp rfl .nil)) rfl (.inl ⟨rfl,rfl⟩) (by (simp [chunk,cGraph];done))⟩));exact goodH_more hh (applyB_ok hxv) (by simp [chunk] at h45;omega)
theorem specl7HistoryJ:FnJD Tryz.prog 76 [] (fun z=>goodH z.his):=by
 refine FnJD.walk Tryz.func76 rfl (by kernel_rfl) Tryz.ntmps76 rfl (fun g=>rfl) fun w0 g=>?_
 refine Af (Au (Az 2 U U U C9 U U U) U ?_);refine Aa (Af (Ab ?_));refine Bi (Bj 800 (specl3GraphV) U U U (.tm U) U U .nil (fun _=>rfl) (fun _=>rfl)) ?_
 rintro _ ⟨z8,hz8,rfl⟩
 try dsimp only at hz8
 refine Ab ?_;refine Bi (Bj 1000 (specl1Below _) U U U (.tm U) U U (.cons (.const U) U .nil) (fun _=>rfl) (fun _=>rfl)) ?_
 rintro _ ⟨z10,hz10,rfl⟩
 try dsimp only at hz10
 refine Ac (C5 U (.no U) U (.const U) (.tm U) (fun _=>by omega)) U ?_;refine Bi (R_callJ 1200 (specNewHistoryJ z8 (1+z10) hz8 (by omega) (by omega)) U U U (.cons (.tm U) U (.cons (.tm U) U .nil)) U) ?_
 rintro _ ⟨z12,hz12,rfl⟩
 try dsimp only at hz12
 refine Ac (B7 U (.no U) U U fun _=>rfl) U ?_;refine Ac (Ao U (.no U) U U (fun _=>rfl) U) U ?_;refine Ac (Ao U (.no U) U U (fun _=>rfl) U) U ?_;refine Au (Az 3 U U U C9 U U U) U ?_;refine An Be ?_;refine Bf (Av [0,2,3,14] [888888,2,800,801,1200,3]) ?_;refine Ah ?_;refine Aa (Ae (Af (Ab ?_)));refine Ab ?_;refine Bd (B8 (xs:=[.const (.int .i64 (3)),.const (.int .i64 (5)),.const (.int .i64 (10))]) 17 U U U (.cons (.const U) U U (.cons (.const U) U U (.cons (.const U) U U .nil))) Tryz.underlying34 in3 U U U U) U ?_;refine Bi (Bj 1800 (specl1PickInt [3,5,10] (by decide)) U U U (.tm U) U U (.cons (.tm U) U .nil) (fun _=>rfl) (fun _=>rfl)) ?_
 rintro _ ⟨z18,hz18,rfl⟩
 try dsimp only at hz18
 refine Bi (Bj 1900 (specl1Below _) U U U (.tm U) U U (.cons (.tm U) U .nil) (fun _=>rfl) (fun _=>rfl)) ?_
 rintro _ ⟨z19,hz19,rfl⟩
 try dsimp only at hz19
 refine Ah ?_;refine Aa (AW.block ?_);refine AW.loop4 (fun (n:Int) (F:Int) (RR:List TGraph) (jj:Nat)=>(n≤10∧goodH ⟨F,RR.drop jj⟩)∧True) (fun (n:Int) (F:Int) (RR:List TGraph) (jj:Nat)=>⟨_,[(5,(true,.a (.one (.t (.v (.int .i64 n)))))),(0,_),(2,_),(3,_)],[(2,.box [.t (.v (.int .i64 0)),.t (.v (.slice none 0 0))]),(3,.box [.t (.v (.int .i64 F)),.tl 1200 2 jj]),(1200,.row 2 (RR.map cGraph)),(888888,.cur g)]⟩) (fun (n:Int) (F:Int) (RR:List TGraph) (jj:Nat)=>n.toNat) (z19) (z12.First) (z12.R) (z12.j) ⟨⟨by simp at hz18 hz19;omega,hz12⟩,Y⟩ Ay ?_
 rintro n F RR jj ⟨hk,he⟩
 refine Ae (Af (Ab ?_));refine Db ?_;refine Aa (Al (.tm U) (fun h21=>?_) (fun h21=>?_))
 · try simp at h21
   obtain⟨x,hx⟩:∃ ξ,(RR.drop jj)[(((RR.drop jj).length:Int)-1).toNat]?=some ξ:=⟨_,List.getElem?_eq_getElem (by have:0<(RR.drop jj).length:=hk.2.1;omega)⟩
   have hb8:(RR.drop jj).length≤8:=hk.2.2.1
   refine Am (Ae (AW.block (Ar (Le.frzT 3 1200 (R0:=_) (by decide) U U U U) ?_)));refine Ar (Av [0,2,3,5,20,21] [2,3,1200,888888]) ?_
   apply C3 (N:=16) (k:=28) (Hs:=[1,2,4]) (ms:=[[],[0],[3],[5],[0,3],[0,5],[3,5],[5,6],[0,3,5],[0,5,6],[3,5,6],[5,6,7],[0,3,5,6],[0,5,6,7],[3,5,6,7],[0,3,5,6,7],[3,5,6,7,8],[0,3,5,6,7,8],[3,5,6,7,8,9],[0,3,5,6,7,8,9],[3,5,6,7,8,9,10],[0,3,5,6,7,8,9,10],[0,3,5,6,7,8,9,10,11],[0,3,5,6,7,8,9,10,11,12],[0,3,5,6,7,8,9,10,11,12,13],[0,3,5,6,7,8,9,10,11,12,14],[0,3,5,6,7,8,9,10,11,12,13,14],[0,3,5,6,7,8,9,10,11,12,13,15],[0,3,5,6,7,8,9,10,11,12,13,14,15]]) (es:=[(0,0,1),(0,3,2),(0,5,3),(1,3,4),(2,0,4),(1,5,5),(3,0,5),(2,5,6),(3,3,6),(3,6,7),(4,5,8),(5,3,8),(6,0,8),(5,6,9),(7,0,9),(6,6,10),(7,3,10),(7,7,11),(8,6,12),(9,3,12),(10,0,12),(9,7,13),(11,0,13),(10,7,14),(11,3,14),(12,7,15),(13,3,15),(14,0,15),(14,8,16),(15,8,17),(16,0,17),(16,9,18),(17,9,19),(18,0,19),(18,10,20),(19,10,21),(20,0,21),(21,11,22),(22,12,23),(23,13,24),(23,14,25),(24,14,26),(25,13,26),(24,15,27),(26,15,28),(27,14,28)]) (σ1:=_) (SM:=⟨_,[(0,_),(2,_),(3,_),(5,_),(20,_),(21,_),(26,_),(27,_),(29,_)],[(2,_),(1200,_),(888888,_)]⟩)
   case hm=>kernel_rfl
   case hB=>kernel_rfl
   case hP=>kernel_rfl
   case hL=>kernel_rfl
   case hN=>rfl
   case hpre=>
    apply As (P:=Tryz.prog) 1 rfl (Bh rfl (.no rfl) rfl (.tm rfl)) (by exact HasV.slot (t:=0) rfl) rfl rfl rfl;apply As (P:=Tryz.prog) 2 rfl ((by exact Bk rfl (.no rfl) rfl (.tm rfl) Bn)) (by exact .pp) rfl rfl rfl;apply As (P:=Tryz.prog) 4 rfl ((by exact Bk rfl (.no rfl) rfl (.tm rfl) Bn)) (by exact .pp) rfl rfl rfl;exact PreOk.nil
   case hS=>exact A4
   case hH=>
    refine LocsH.mv ?_;refine LocsH.fq Bn ?_;refine LocsH.fq Bn ?_
    trivial
   apply Dh.new0 (i:=0);rfl;rfl;rfl
   · intro w9 _;refine Ai Be ?_;exact Ak [0,2,3,5,20,21,25,26,27,29] [2,3,1200,888888]
   intros;exact A4
   apply Dh.new0 (i:=3);rfl;rfl;rfl
   · intro w9 _;refine Ai Ch ?_;exact Ak [0,2,3,5,20,21,26,27,28,29] [2,3,1200,888888]
   intros;exact A4
   apply Dh.new0 (i:=5);rfl;rfl;rfl
   · intro w9 _;refine Ai Ch ?_;exact Ak [0,2,3,5,20,21,26,27,29,30] [2,3,1200,888888]
   intros;exact A4
   apply Dh.new0 (i:=3);rfl;rfl;rfl
   · intro w9 _;refine Ai Ch ?_;exact Ak [0,2,3,5,20,21,25,26,27,28,29] [2,3,1200,888888]
   intros;exact A4
   apply Dh.old0 (i:=0);rfl;rfl;rfl
   · intro w9 _;refine Ai Be ?_;exact Aa Ay
   apply Dh.new0 (i:=5);rfl;rfl;rfl
   · intro w9 _;refine Ai Ch ?_;exact Ak [0,2,3,5,20,21,25,26,27,29,30] [2,3,1200,888888]
   intros;exact A4
   apply Dh.old0 (i:=0);rfl;rfl;rfl
   · intro w9 _;refine Ai Be ?_;exact Aa Ay
   apply Dh.new0 (i:=5);rfl;rfl;rfl
   · intro w9 _;refine Ai Ch ?_;exact Ak [0,2,3,5,20,21,26,27,28,29,30] [2,3,1200,888888]
   intros;exact A4
   apply Dh.old0 (i:=3);rfl;rfl;rfl
   · intro w9 _;refine Ai Ch ?_;exact Aa Ay
   apply Dh.new0 (i:=6);rfl;rfl;rfl
   · intro w9 _;refine Bu (.vw) Tryz.underlying24 ?_;exact Ak [0,2,3,5,20,21,26,27,29,31] [2,3,1200,888888]
   intros;exact A4
   apply Dh.new0 (i:=5);rfl;rfl;rfl
   · intro w9 _;refine Ai Ch ?_;exact Ak [0,2,3,5,20,21,25,26,27,28,29,30] [2,3,1200,888888]
   intros;exact A4
   apply Dh.old0 (i:=3);rfl;rfl;rfl
   · intro w9 _;refine Ai Ch ?_;exact Aa Ay
   apply Dh.old0 (i:=0);rfl;rfl;rfl
   · intro w9 _;refine Ai Be ?_;exact Aa Ay
   apply Dh.new0 (i:=6);rfl;rfl;rfl
   · intro w9 _;refine Bu (.vw) Tryz.underlying24 ?_;exact Ak [0,2,3,5,20,21,25,26,27,29,31] [2,3,1200,888888]
   intros;exact A4
   apply Dh.old0 (i:=0);rfl;rfl;rfl
   · intro w9 _;refine Ai Be ?_;exact Aa Ay
   apply Dh.new0 (i:=6);rfl;rfl;rfl
   · intro w9 _;refine Bu (.vw) Tryz.underlying24 ?_;exact Ak [0,2,3,5,20,21,26,27,28,29,31] [2,3,1200,888888]
   intros;exact A4
   apply Dh.old0 (i:=3);rfl;rfl;rfl
   · intro w9 _;refine Ai Ch ?_;exact Aa Ay
   apply Dh.new0 (i:=7);rfl;rfl;rfl
   · intro w9 _;refine Cy ?_;exact Ak [0,2,3,5,20,21,26,27,29,32] [2,3,1200,888888]
   intros;exact A4
   apply Dh.new0 (i:=6);rfl;rfl;rfl
   · intro w9 _;refine Bu (.vw) Tryz.underlying24 ?_;exact Ak [0,2,3,5,20,21,25,26,27,28,29,31] [2,3,1200,888888]
   intros;exact A4
   apply Dh.old0 (i:=3);rfl;rfl;rfl
   · intro w9 _;refine Ai Ch ?_;exact Aa Ay
   apply Dh.old0 (i:=0);rfl;rfl;rfl
   · intro w9 _;refine Ai Be ?_;exact Aa Ay
   apply Dh.new0 (i:=7);rfl;rfl;rfl
   · intro w9 _;refine Cy ?_;exact Ak [0,2,3,5,20,21,25,26,27,29,32] [2,3,1200,888888]
   intros;exact A4
   apply Dh.old0 (i:=0);rfl;rfl;rfl
   · intro w9 _;refine Ai Be ?_;exact Aa Ay
   apply Dh.new0 (i:=7);rfl;rfl;rfl
   · intro w9 _;refine Cy ?_;exact Ak [0,2,3,5,20,21,26,27,28,29,32] [2,3,1200,888888]
   intros;exact A4
   apply Dh.old0 (i:=3);rfl;rfl;rfl
   · intro w9 _;refine Ai Ch ?_;exact Aa Ay
   apply Dh.new0 (i:=7);rfl;rfl;rfl
   · intro w9 _;refine Cy ?_;exact Ak [0,2,3,5,20,21,25,26,27,28,29,32] [2,3,1200,888888]
   intros;exact A4
   apply Dh.old0 (i:=3);rfl;rfl;rfl
   · intro w9 _;refine Ai Ch ?_;exact Aa Ay
   apply Dh.old0 (i:=0);rfl;rfl;rfl
   · intro w9 _;refine Ai Be ?_;exact Aa Ay
   apply Dh.new0 (i:=8);rfl;rfl;rfl
   · intro w9 _;refine Ac (by exact R_indexAddr_vw U (.no U) U (.tm U) (.tm U) Tryz.underlying24 A9 (fun _=>⟨by have:0<(RR.drop jj).length:=hk.2.1;omega,A5 hx⟩)) U ?_;exact Ak [0,2,3,5,20,21,26,27,29,33] [2,3,1200,888888]
   intros;exact A4
   apply Dh.new0 (i:=8);rfl;rfl;rfl
   · intro w9 _;refine Ac (by exact R_indexAddr_vw U (.no U) U (.tm U) (.tm U) Tryz.underlying24 A9 (fun _=>⟨by have:0<(RR.drop jj).length:=hk.2.1;omega,A5 hx⟩)) U ?_;exact Ak [0,2,3,5,20,21,25,26,27,29,33] [2,3,1200,888888]
   intros;exact A4
   apply Dh.old0 (i:=0);rfl;rfl;rfl
   · intro w9 _;refine Ai Be ?_;exact Aa Ay
   apply Dh.new0 (i:=9);rfl;rfl;rfl
   · intro w9 _;refine Ac (R_load_vw U (.no U) U (.tm U) A9 U U) U ?_;exact Ak [0,2,3,5,20,21,26,27,29,34] [2,3,1200,888888]
   intros;exact A4
   apply Dh.new0 (i:=9);rfl;rfl;rfl
   · intro w9 _;refine Ac (R_load_vw U (.no U) U (.tm U) A9 U U) U ?_;exact Ak [0,2,3,5,20,21,25,26,27,29,34] [2,3,1200,888888]
   intros;exact A4
   apply Dh.old0 (i:=0);rfl;rfl;rfl
   · intro w9 _;refine Ai Be ?_;exact Aa Ay
   apply Dh.drw0 (i:=10)
   case ha=>rfl
   case ho=>rfl
   case hE=>
    intro  hp
    obtain _:=hp
    exact Bj 3500 (specl6Batch x 4 (hk.2.2.2 x (List.mem_of_getElem? hx)) (by omega)) rfl rfl rfl (.tm rfl) rfl rfl (.cons (.tm rfl) rfl (.cons (.const rfl) rfl .nil)) (fun _=>rfl) (fun _=>rfl)
   case hb=>rfl
   case hL=>
    intro  z35 hp hy;exact C7 (Av [0,2,3,5,20,21,26,27,29,35] [2,3,1200,888888,3500]) U
   case hS=>intros;exact A4
   apply Dh.drw0 (i:=10)
   case ha=>rfl
   case ho=>rfl
   case hE=>
    intro  hp
    obtain _:=hp
    exact Bj 3500 (specl6Batch x 4 (hk.2.2.2 x (List.mem_of_getElem? hx)) (by omega)) rfl rfl rfl (.tm rfl) rfl rfl (.cons (.tm rfl) rfl (.cons (.const rfl) rfl .nil)) (fun _=>rfl) (fun _=>rfl)
   case hb=>rfl
   case hL=>
    intro  z35 hp hy;exact C7 (Av [0,2,3,5,20,21,25,26,27,29,35] [2,3,1200,888888,3500]) U
   case hS=>intros;exact A4
   apply Dh.old1 (i:=0);rfl;rfl;rfl
   · intro w9 z35 hp
     obtain⟨_,hz35⟩:=hp
     refine Ai Be ?_;exact Aa Ay
   apply Dh.drw1 (i:=11)
   case ha=>rfl
   case ho=>rfl
   case hE=>
    intro z35 hp
    obtain⟨_,hz35⟩:=hp
    exact R_callJ 3600 (specAppendBatchJ ⟨F,RR.drop jj⟩ z35 hk.2) rfl rfl rfl (.cons (.tm rfl) rfl (.cons (.tm rfl) rfl .nil)) rfl
   case hb=>rfl
   case hL=>
    intro z35 z36 hp hy;exact C7 (Av [0,2,3,5,20,21,26,27,29,36] [2,3,1200,888888,3500,3600]) U
   case hS=>intros;exact A4
   apply Dh.new2 (i:=12);rfl;rfl;rfl
   · intro w9 z35 z36 hp
     obtain⟨⟨_,hz35⟩,hz36⟩:=hp
     refine Ac (B7 U (.no U) U U fun _=>rfl) U ?_;exact Ak [0,2,3,5,20,21,24,26,27,29] [2,3,1200,888888,3500,3600]
   intros;exact A4
   apply Dh.new2 (i:=13);rfl;rfl;rfl
   · intro w9 z35 z36 hp
     obtain⟨⟨_,hz35⟩,hz36⟩:=hp
     refine Ac (Ao U (.no U) U U (fun _=>rfl) U) U ?_;exact Ak [0,2,3,5,20,21,24,26,27,29,37] [2,3,1200,888888,3500,3600]
   intros;exact A4
   apply Dh.new2 (i:=14);rfl;rfl;rfl
   · intro w9 z35 z36 hp
     obtain⟨⟨_,hz35⟩,hz36⟩:=hp
     refine Ac (Ao U (.no U) U U (fun _=>rfl) U) U ?_;exact Ak [0,2,3,5,20,21,24,26,27,29] [2,3,1200,888888,3500,3600]
   intros;exact A4
   apply Dh.new2 (i:=14);rfl;rfl;rfl
   · intro w9 z35 z36 hp
     obtain⟨⟨_,hz35⟩,hz36⟩:=hp
     refine Ac (Ao U (.no U) U U (fun _=>rfl) U) U ?_;exact Ak [0,2,3,5,20,21,26,27,29,37] [2,3,1200,888888,3500,3600]
   intros;exact A4
   apply Dh.old2 (i:=13);rfl;rfl;rfl
   · intro w9 z35 z36 hp
     obtain⟨⟨_,hz35⟩,hz36⟩:=hp
     refine Ac (Ao U (.no U) U U (fun _=>rfl) U) U ?_;exact Aa Ay
   apply Dh.new2 (i:=15);rfl;rfl;rfl
   · intro w9 z35 z36 hp
     obtain⟨⟨_,hz35⟩,hz36⟩:=hp
     refine An Be ?_;exact Ak [0,2,3,5,20,21,24,26,27,29] [2,3,1200,888888,3500,3600]
   intros;exact A4
   apply Dh.new2 (i:=15);rfl;rfl;rfl
   · intro w9 z35 z36 hp
     obtain⟨⟨_,hz35⟩,hz36⟩:=hp
     refine An Be ?_;exact Ak [0,2,3,5,20,21,26,27,29] [2,3,1200,888888,3500,3600]
   intros;exact A4
   apply Dh.old2 (i:=14);rfl;rfl;rfl
   · intro w9 z35 z36 hp
     obtain⟨⟨_,hz35⟩,hz36⟩:=hp
     refine Ac (Ao U (.no U) U U (fun _=>rfl) U) U ?_;exact Aa Ay
   refine Dh.fin2 (k:=28) rfl ?_;intro z35 z36 hp
   obtain⟨⟨_,hz35⟩,hz36⟩:=hp
   refine Aa (Ar (Le.sw 1200 3600 _) ?_);refine Ad (Ab ?_);refine Cy ?_;refine Ah ?_;refine Aa ?_
   repeat (with_reducible refine A7 ?_)
   refine Round4.next (n-1) (z36.First) (z36.R) (z36.j) ⟨⟨by omega,hz36⟩,Y⟩ (by (try simp at h21);omega) (A6 rfl ⟨rfl,rfl,rfl,rfl,Y⟩ ⟨(by rfl),(by rfl),(by rfl),(by rfl),Y⟩)
 try simp at h21
 refine Bt (Af (Ai Be ?_));refine An Be ?_;refine Aa (Ap ?_)
 show JDRes _ _ _ _ _
 refine⟨⟨F,RR,jj,false⟩,?_,rfl,ResJ.mk (i:=1200) rfl (.cell rfl rfl Be rfl rfl .nil) rfl (.inr rfl) (by rfl)⟩
 exact hk.2
theorem specl7Any:FrD Tryz.prog 27 [] okHs (fun h=>.a (.agg (cHistory h))):=by
 refine FrD.walk Tryz.func27 rfl (by kernel_rfl) Tryz.ntmps27 rfl (fun g=>rfl) fun w0 g=>?_
 refine Af (Au (Az 2 U U U C9 U U U) U ?_);refine Aa (Af (Ab ?_));refine Bi (R_calldJ 500 (specl7HistoryJ) U U U (.tm U) U U .nil U) ?_
 rintro _ ⟨z5,hz5,rfl⟩
 try dsimp only at hz5
 refine Au (Az 3 U U U C9 U U U) U ?_;refine An Be ?_;refine Aa (Ae (Af (Ab ?_)));refine Bi (Bj 700 (specl1Below _) U U U (.tm U) U U (.cons (.const U) U .nil) (fun _=>rfl) (fun _=>rfl)) ?_
 rintro _ ⟨z7,hz7,rfl⟩
 try dsimp only at hz7
 refine Aa (AW.block (Af (Ck ?_)));refine Ah ?_;refine Aa (Al (.tm U) (fun h8=>?_) (fun h8=>?_))
 · try simp at h8
   refine Ad (Ab ?_);refine Ac (R_listz (xs:=[.const (.int .i64 (0)),.const (.int .i64 (999)),.const (.int .i64 (998)),.const (.int .i64 (1000))]) (rows:=[cInt 0,cInt 999,cInt 998,cInt 1000]) U U U (.cons (.const U) U U (.cons (.const U) U U (.cons (.const U) U U (.cons (.const U) U U .nil)))) Tryz.underlying34 in3 U U (U)) U ?_;refine Bi (Bj 1200 (specl1PickInt [0,999,998,1000] (by decide)) U U U (.tm U) U U (.cons (.tm U) U .nil) (fun _=>rfl) (fun _=>rfl)) ?_
   rintro _ ⟨z12,hz12,rfl⟩
   try dsimp only at hz12
   refine A8 Dj ?_;refine An ty3 ?_;refine Aa (Ae (Ar (Av [0,2,3,7] [888888,2,500,3]) ?_));refine Ar (by exact Le.frzT 3 500 (R0:=_) (by decide) U U U U) ?_;refine Ad (Ai Be ?_);refine An Be ?_;refine Aa (Ap ?_);apply DRRes.mk (x:=⟨z12,z5.R.drop z5.j⟩) rfl
   case h=>
    refine ResR.one U (.cell U U Be U U .nil) U ?_
    rfl
   case hp=>exact goodH_okHs (h:=z5.his) hz5
 try simp at h8
 refine Af (Ck ?_);refine Ah ?_;refine Aa (Al (.tm U) (fun h14=>?_) (fun h14=>?_))
 · try simp at h14
   have hlm:(z5.R.map cGraph).length=z5.R.length:=by simp
   have hl8:z5.R.length-z5.j≤8∧0<z5.R.length-z5.j:=⟨by have h1:=hz5.2.1;simpa [JZ.his] using h1,by have h1:=hz5.1;simpa [JZ.his] using h1⟩
   obtain⟨gl,hgl⟩:∃ ξ,z5.R[z5.j+((((z5.R.map cGraph).length-z5.j:Nat):Int)-1).toNat]?=some ξ:=⟨_,List.getElem?_eq_getElem (by omega)⟩
   refine Ar (Av [0,2,3,7] [888888,2,500,3]) ?_;refine Ar (Av [0,2,3,7] [888888,2,500,3]) ?_;apply C3 (N:=8) (k:=1) (Hs:=[0,1,2,3,4,5,6]) (ms:=[[],[7]]) (es:=[(0,7,1)]) (σ1:=_) (SM:=⟨_,[(0,_),(2,_),(3,_),(7,_),(16,_),(17,_),(18,_),(19,_),(20,_),(21,_),(22,_)],[(888888,_),(2,_),(500,_),(3,_)]⟩)
   case hm=>kernel_rfl
   case hB=>kernel_rfl
   case hP=>kernel_rfl
   case hL=>kernel_rfl
   case hN=>rfl
   case hpre=>
    apply As (P:=Tryz.prog) 0 rfl ((by exact Bk rfl (.no rfl) rfl (.tm rfl) Bn)) (by exact .pp) rfl rfl rfl;apply As (P:=Tryz.prog) 1 rfl ((by exact Bm rfl (.no rfl) rfl (.tm rfl) rfl Ch rfl rfl)) (by exact HasV.load (x:=.tmp 16) (.tm rfl) rfl Ch rfl rfl) rfl rfl rfl;apply As (P:=Tryz.prog) 2 rfl ((by exact Bk rfl (.no rfl) rfl (.tm rfl) Bn)) (by exact .pp) rfl rfl rfl;apply As (P:=Tryz.prog) 3 rfl ((by exact Bm rfl (.no rfl) rfl (.tm rfl) rfl Ch rfl rfl)) (by exact HasV.load (x:=.tmp 18) (.tm rfl) rfl Ch rfl rfl) rfl rfl rfl;apply As (P:=Tryz.prog) 4 rfl ((by exact R_len_tl rfl (.no rfl) rfl (.tm rfl) rfl Tryz.underlying24)) (by exact .val rfl) rfl rfl rfl;apply As (P:=Tryz.prog) 5 rfl (Dl rfl (.no rfl) rfl (.tm rfl) (.const rfl) (fun _=>by omega)) (by exact .val rfl) rfl rfl rfl;apply As (P:=Tryz.prog) 6 rfl (Bh rfl (.no rfl) rfl (.tm rfl)) (by exact HasV.slot (t:=0) rfl) rfl rfl rfl
    exact PreOk.nil
   case hS=>exact A4
   case hH=>
    refine LocsH.fq Bn ?_;refine LocsH.lq Ch ?_;refine LocsH.fq Bn ?_;refine LocsH.lq Ch ?_
    refine⟨⟨_,_,_,rfl,rfl,rfl,fun σ' hs=>(by exact R_len_tl rfl (.no rfl) (Ag hs rfl) (.tm (hs.slots _ _ rfl)) (hs.res _ _ rfl) Tryz.underlying24)⟩,?_⟩
    refine⟨⟨_,_,_,rfl,rfl,rfl,fun σ' hs=>Dl rfl (.no rfl) (Ag hs rfl) (.tm (hs.slots _ _ rfl)) (.const rfl) (fun _=>by omega)⟩,?_⟩
    refine LocsH.mv ?_
    trivial
   apply Dh.drw0 (i:=7)
   case ha=>rfl
   case ho=>rfl
   case hE=>
    intro  hp
    obtain _:=hp
    exact Bj 2300 (specl3AnyB) rfl rfl rfl (.tm rfl) rfl rfl .nil (fun _=>rfl) (fun _=>rfl)
   case hb=>rfl
   case hL=>
    intro  z23 hp hy;exact C7 (Av [0,2,3,7,16,17,18,19,20,21,22,23] [888888,2,500,3,2300,2301]) U
   case hS=>intros;exact A4
   refine Dh.fin1 (k:=1) rfl ?_;intro z23 hp
   obtain⟨_,hz23⟩:=hp
   refine Ac (R_indexAddr_tl U (.no U) U (.tm U) U (.tm U) Tryz.underlying24 A9 (fun _=>⟨by omega,(A5 hgl)⟩)) U ?_;refine AWl.absupd (R_store_px U U U (.tm U) U (.tm U) U (A5 hgl) A9 U U U) ?_;refine Aa (Ae (Ar (Av [0,2,3,7] [888888,2,500,3]) ?_));refine Ar (by exact Le.frzT 3 500 (R0:=(z5.R.set (z5.j+((((z5.R.map cGraph).length-z5.j:Nat):Int)-1).toNat) z23)) (by decide) U U (by rw [List.map_set];rfl) U) ?_;refine Ad (Ai Be ?_);refine An Be ?_;refine Aa (Ap ?_);apply DRRes.mk (x:=⟨z5.First,(z5.R.set (z5.j+((((z5.R.map cGraph).length-z5.j:Nat):Int)-1).toNat) z23).drop z5.j⟩) rfl
   case h=>
    refine ResR.one U (.cell U U Be U U .nil) U ?_
    rfl
   case hp=>exact set_okHs (goodH_okHs (h:=z5.his) hz5) hz23
 try simp at h14
 refine Ae (Ar (Av [0,2,3,7] [888888,2,500,3]) ?_);refine Ad (Ck ?_);refine Ah ?_;refine Aa (Al (.tm U) (fun h25=>?_) (fun h25=>?_))
 · try simp at h25
   refine Ad (A8 Bn ?_);refine AWl.chgb (R_store_pb U U U (.tm U) (.const U) U Ch U U U (by kernel_rfl) U) ?_;refine AWl.nilB (b:=3) 29002 2 1 U U U ?_;refine Aa (Ae (Ar (by exact Le.frzT 3 500 (R0:=_) (by decide) U U U U) ?_));refine Ad (Ai Be ?_);refine An Be ?_;refine Aa (Ap ?_);apply DRRes.mk (x:=⟨z5.First,[]⟩) rfl
   case h=>
    refine ResR.one U (.cell U U Be U U .nil) U ?_
    rfl
   case hp=>exact⟨by simp,by simp⟩
 try simp at h25
 refine Am (Ae (Ar (by exact Le.frzT 3 500 (R0:=_) (by decide) U U U U) ?_));refine Ad (Ai Be ?_);refine An Be ?_;refine Aa (Ap ?_);apply DRRes.mk (x:=⟨z5.First,z5.R.drop z5.j⟩) rfl
 case h=>
  refine ResR.one U (.cell U U Be U U .nil) U ?_
  rfl
 case hp=>exact goodH_okHs (h:=z5.his) hz5
end Go.Proofs.YtdhojcaoljhbiaaGreatDoor
