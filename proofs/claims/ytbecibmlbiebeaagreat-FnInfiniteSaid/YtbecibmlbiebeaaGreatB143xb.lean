import Derived.Test.YtbecibmlbiebeaaGreatB152xb
import Derived.Test.YtbecibmlbiebeaaGreatKntxb
import Derived.Test.YtbecibmlbiebeaaGreatB98xb
set_option linter.unusedVariables false
set_option linter.unusedSimpArgs false
set_option maxHeartbeats 1000000
set_option maxRecDepth 100000
namespace Go.Q
open Go.D
def ctrT (g:TGraph) (a:TAutomaton) (y:Int) (l:List (List TArc)) (b:Nat):List T:=cGraph g++(cAutomaton a++[.v (.int .i64 y),.sl 1 (l.map cArcS),.v (.map (some b))])
def plcV (u:Int) (m:Nat) (r:Int):V0:=.agg [.v (.int .i64 u),.v (.int .i64 (m:Int)),.v (.int .i64 r)]
def knF (g:TGraph) (a:TAutomaton) (c y u m r:Int):Int:=cwC g a c y r.toNat u m.toNat
theorem knF_at (g:TGraph) (a:TAutomaton) (c y u:Int) (m r:Nat):knF g a c y u m r=cwC g a c y r u m:=rfl
theorem arcsCV_at {g:TGraph} {c:Int} {x:Int} (hx:0≤x∧x<g.Values.length):(arcsCV g c)[x.toNat]?=some (arcsC g c x):=by
 unfold arcsCV
 rw [range_get _ (by omega),Int.toNat_of_nonneg hx.1]
theorem wfI_of {x:Int} (h0:0≤x) (h1:x≤1000000000):wfI x:=⟨by omega,by omega⟩
end Go.Q
namespace Go.Proofs.YtbecibmlbiebeaaGreat
open Go.RowKit Go.Q Go.D Go.WideMaps Go.ChangeMaps
theorem mapLaidOut:laidOutB Tryz.prog=true:=by kernel_rfl
theorem mapLaw:KeyLaw Tryz.prog 121:=deep_law_laid mapLaidOut (m:=2) (by omega) (of_decide_eq_true (by kernel_rfl)) (by kernel_rfl) (by rw [Tryz.underlying121])
theorem mapKeyT:Tryz.prog.keyType 121=true:=by kernel_rfl
theorem mapKey3 (x y z:Int) (h:wfI x∧wfI y∧wfI z):∃ l,keyOf Tryz.prog 121 (.agg #[.int .i64 x,.int .i64 y,.int .i64 z])=some l:=by
 obtain⟨hx,hy,hz⟩:=h
 have e1:IntKind.i64.min=-9223372036854775808:=by decide
 have e2:IntKind.i64.max=9223372036854775807:=by decide
 have hw:∀ q:Int,wfI q→(Lit.int .i64 q).wf=true:=fun q hq=>by
  unfold wfI at hq
  simp only [Lit.wf,e1,e2,Bool.and_eq_true,decide_eq_true_eq]
  exact hq
 have h0:0<Tryz.prog.types.size:=of_decide_eq_true (by kernel_rfl)
 obtain⟨d,hd⟩:∃ d,Tryz.prog.types.size=d+1:=⟨Tryz.prog.types.size-1,by omega⟩
 have hf:(Value.agg #[.int .i64 x,.int .i64 y,.int .i64 z]).formed Tryz.prog 121=true:=by
  simp only [Value.formed,Tryz.underlying121]
  kernel_rfl
 have hc:Tryz.prog.cellsOf 121=3:=by kernel_rfl
 have hc3:Tryz.prog.cellsOf 3=1:=by kernel_rfl
 have hl:∀ q:Int,wfI q→Tryz.prog.keyLits (d+1) 3 [.int .i64 q]=some [.int .i64 q]:=fun q hq=>by
  unfold Program.keyLits
  rw [Tryz.underlying3]
  simp [hw q hq]
 refine Option.isSome_iff_exists.1 ?_
 unfold keyOf
 rw [Tryz.underlying121]
 simp only [mapKeyT,hf,hd,Value.cells,Bool.and_self,if_true,Option.isSome_map]
 unfold Program.keyLits
 rw [Tryz.underlying121]
 simp [hc,hc3,hl x hx,hl y hy,hl z hz]
theorem mapTy:MapTy Tryz.prog 116 121 3 where
 map:=Tryz.underlying116
 law:=mapLaw
 zero:=fun w=>by kernel_rfl
 key:=mapKey3
theorem implcounternext (g:TGraph) (a:TAutomaton) (ha:validA a=true) (hg:validG g=true) (y:Int) (l:List (List TArc)) (b:Nat) (u:Int) (hu:0≤u∧u<g.Values.length) (m:Nat) (hm:m<2^a.Accept.length) (r:Nat) (hr:r≤1000) (z:TArc) (hz:z∈arcsAt g u):FnT Tryz.prog 167 [.one (.ad (ctrT g a y l b)),plcV u m (r+1:Nat),.agg (cArc z)] (.a (plcV z.to (aftS a m (valAt g u) z.letter) r)):=by
 refine A7 Tryz.func167 U (by kernel_rfl) Tryz.ntmps167 U fun hlen w0=>?_
 try simp [cEdge,cGraph,cAutomaton] at hlen
 have hv:=valAt_ok hg hu
 have hzo:=arc_mem hg hz
 have hP:=pow_le_12 ha
 refine Af (Ad (Bm U U U (.tm U) (ts:=_) (by rfl)) U ?_);refine Ad (Bm U U U (.tm U) (ts:=_) (by rfl)) U ?_;refine A6 (Bi 6 U U U in121 U U U) U ?_;refine Aa (Ae (B8 24 (nthB [[],[0],[],[2],[2,3],[2,3,4],[],[6],[],[8],[8,9],[8,9,10],[8,9,10,11],[],[13],[8,9,10,11,12,13,14],[8,9,10,11,12,13,14,15],[],[17],[2,3,4,5,6,7,8,9,10,11,12,13,14,15,16,17,18],[],[20],[20,21],[0,1,2,3,4,5,6,7,8,9,10,11,12,13,14,15,16,17,18,19,20,21,22]]) (by kernel_rfl) (by kernel_rfl) (by kernel_rfl) ?_));refine B9 fl178_2 ?_;refine Bj ty3 ?_;refine Aw ?_;refine DrawC.s (fun _ hs=>(Ct U (.no U) (Ah hs U) (hs.tm U))) ?_;refine B9 fl118_1 ?_;refine Bj Bt ?_;refine B9 fl121_1 ?_;refine Bj ty3 ?_;refine Aw ?_;refine DrawC.s (fun _ hs=>(by exact Ct U (.no U) (Ah hs U) (hs.tm U))) ?_;refine B9 fl118_0 ?_;refine B9 Cl ?_;refine Bj Bz ?_;refine B9 fl121_0 ?_;refine Bj ty3 ?_
 refine DrawC.s (fun _ hs=>(by exact As U (.no U) (Ah hs U) (hs.tm U) (hs.tm U) Tryz.underlying40 ty3 (fun _=>⟨by omega,(by exact Al hv.1)⟩))) ?_;refine Bj ty3 ?_;refine B9 fl178_1 ?_;refine Bj ty3 ?_;refine DrawC.s (fun _ hs=>Bc (FnT.fr (implafter a ha m hm (valAt g u) z.letter hv.2 ⟨hzo.1,by omega⟩)) U (.no U) (Ah hs U) (.cons (hs.tm U) (readA_sup hs U) (.cons (hs.tm U) (readA_sup hs U) (.cons (hs.tm U) (readA_sup hs U) (.cons (hs.tm U) (readA_sup hs U) .nil))))) ?_;refine B9 fl121_2 ?_;refine Bj ty3 ?_;refine DrawC.s (fun _ hs=>Dx U (.no U) (Ah hs U) (hs.tm U) (.const U) (fun _=>by omega)) ?_;refine DrawC.s (fun _ hs=>Bo (ps:=[(0,.tmp 8),(1,.tmp 26),(2,.tmp 29)]) U U (Ah hs U) in121 U U st121 (.cons (hs.tm U) U U fp121_0 (.cons (hs.tm U) U U fp121_1 (.cons (hs.tm U) U U fp121_2 .nil))) U) ?_;refine DrawC.fin U U ?_;refine Az Dw ?_
 refine Aa (Am (Res.one U (.cell U U Dw U U .nil) U ?_));refine congrArg (fun x:Int=>[V0.agg [.v (.int .i64 z.to),.v (.int .i64 ((aftS a m (valAt g u) z.letter:Nat):Int)),.v (.int .i64 x)]]) (by omega)
theorem implcounterstart (g:TGraph) (a:TAutomaton) (ha:validA a=true) (y:Int) (l:List (List TArc)) (b:Nat) (x n:Int):FnT Tryz.prog 85 [.one (.ad (ctrT g a y l b)),.one (.v (.int .i64 x)),.one (.v (.int .i64 n))] (.a (plcV x (2^a.Start.toNat) n)):=by
 refine A7 Tryz.func85 U (by kernel_rfl) Tryz.ntmps85 U fun hlen w0=>?_
 try simp [cEdge,cGraph,cAutomaton] at hlen
 have hA:=validA_len ha
 refine Af (A6 (Bi 6 U U U in121 U U U) U ?_);refine Aa (Af (Ab ?_));refine Ab ?_;refine Ad (Ct U (.no U) U (.tm U)) U ?_;refine Bg fl118_1 ?_;refine Bg fl36_0 ?_;refine Aq ty3 ?_;refine Ad (R_shlN U (.no U) U (.const U) (.tm U) (fun _=>by omega)) U ?_;refine Ab ?_;refine Ad (Bo (ps:=[(0,.tmp 7),(1,.tmp 13),(2,.tmp 14)]) U U U in121 U U st121 (.cons (.tm U) U U fp121_0 (.cons (.tm U) U U fp121_1 (.cons (.tm U) U U fp121_2 .nil))) U) U ?_;refine Az Dw ?_;refine Aa (Am (Res.one U (.cell U U Dw U U .nil) U ?_));refine congrArg (fun q:Int=>[V0.agg [.v (.int .i64 x),.v (.int .i64 q),.v (.int .i64 n)]]) (by simp)
theorem implcountercount (g:TGraph) (a:TAutomaton) (ha:validA a=true) (hg:validG g=true) (c y:Int) (b:Nat):∀ (r:Nat),r≤1000→∀ (u:Int),0≤u∧u<g.Values.length→∀ (m:Nat),m<2^a.Accept.length→FnK Tryz.prog 106 b (knF g a c y) [.one (.ad (ctrT g a y (arcsCV g c) b)),plcV u m r] (.a (.one (.v (.int .i64 (cwC g a c y r u m))))):=by
 intro r
 induction r using Nat.strongRecOn with
 | ind r ih=>
 intro hr u hu m hm;refine FnK.walk Tryz.func106 rfl (by kernel_rfl) Tryz.ntmps106 rfl rfl fun w0=>?_
 have hv:=valAt_ok hg hu
 have hP:=pow_le_12 ha
 have hG:=validG_len hg
 have hwf:wfI u∧wfI (m:Int)∧wfI (r:Int):=⟨wfI_of hu.1 (by omega),wfI_of (by omega) (by omega),wfI_of (by omega) (by omega)⟩
 have hal:=arcsC_len hg c u
 refine Af (Ad (Bm U U U (.tm U) (ts:=_) (by rfl)) U ?_);refine Ak ?_;refine Aa (Ae (Af (Bg fl121_1 ?_)));refine Aq ty3 ?_;refine Bs ?_;refine Aa (Ai (.tm U) (fun h12=>?_) (fun h12=>?_))
 · try simp at h12
   refine Af (Ak ?_);refine Aa (Am (KRes.mk rfl ?_));refine Bp U U ?_
   (have hm0:m=0:=by (first|omega|(simp at h12;omega)));subst hm0;cases r<;>simp [cwC]
 try simp at h12
 have hm0:m≠0:=by (first|omega|(simp at h12;omega))
 refine Aj (Ae (Af (Bg fl121_2 ?_)));refine Aq ty3 ?_;refine Bs ?_;refine Aa (Ai (.tm U) (fun h15=>?_) (fun h15=>?_))
 · try simp at h15
   refine Ae (Ae (Ar (Av [0,1,3,4] [888888]) ?_));refine B8 25 (nthB [[],[0],[],[2],[2,3],[2,3,4],[0,1,2,3,4,5],[0,1,2,3,4,5,6],[0,1,2,3,4,5,6,7],[0,1,2,3,4,5,6,7,8],[0,1,2,3,4,5,6,7,8,9],[0,1,2,3,4,5,6,7,8,9,10],[0,1,2,3,4,5,6,7],[0,1,2,3,4,5,6,7,12],[0,1,2,3,4,5,6,7],[0,1,2,3,4,5,6,7,14],[0,1,2,3,4,5,6,7,14,15],[0,1,2,3,4,5,6,7,14,15,16],[0,1,2,3,4,5,6,7,14,15,16,17],[0,1,2,3,4,5,6,7],[0,1,2,3,4,5,6,7,19],[0,1,2,3,4,5,6,7,14,15,16,17,18,19,20],[0,1,2,3,4,5,6,7,14,15,16,17,18,19,20,21],[0,1,2,3,4,5,6,7,8,9,10,11,12,13,14,15,16,17,18,19,20,21,22],[0,1,2,3,4,5,6,7,8,9,10,11,12,13,14,15,16,17,18,19,20,21,22,23]]) (by kernel_rfl) (by kernel_rfl) (by kernel_rfl) ?_;refine B9 fl121_0 ?_;refine Bj ty3 ?_;refine Aw ?_;refine DrawC.s (fun _ hs=>(by exact Ct U (.no U) (Ah hs U) (hs.tm U))) ?_;refine B9 fl118_2 ?_;refine Bj ty3 ?_
   refine DrawC.s (fun _ hs=>R_eq U (.no U) (Ah hs U) (hs.tm U) (hs.tm U)) ?_;refine Aw ?_;refine DrawC.s (fun _ hs=>Bh U (by exact .yes1 U U (hs.slots _ _ U) (by rw [hs.n];rfl)) (Ah hs U) (.tmp (hs.slots _ _ U) (by exact fun _=>rfl))) ?_;refine DrawC.s (fun _ hs=>(by exact Ct U (by exact .yes1 U U (hs.slots _ _ U) (by rw [hs.n];rfl)) (Ah hs U) (.tmp (hs.slots _ _ U) (by exact id)))) ?_;refine DrawC.s (fun _ hs=>(by exact Cj U (by exact .yes1 U U (hs.slots _ _ U) (by rw [hs.n];rfl)) (Ah hs U) (.tmp (hs.slots _ _ U) (by exact id)) fl118_1)) ?_;refine DrawC.s (fun _ hs=>(by exact Ca U (by exact .yes1 U U (hs.slots _ _ U) (by rw [hs.n];rfl)) (Ah hs U) (.tmp (hs.slots _ _ U) (by exact id)) Bt U U)) ?_;refine DrawC.s (fun _ hs=>(by exact Cj U (by exact .yes1 U U (hs.slots _ _ U) (by rw [hs.n];rfl)) (Ah hs U) (.tmp (hs.slots _ _ U) (by exact fun _=>rfl)) fl121_1)) ?_
   refine DrawC.s (fun _ hs=>(by exact Ca U (by exact .yes1 U U (hs.slots _ _ U) (by rw [hs.n];rfl)) (Ah hs U) (.tmp (hs.slots _ _ U) (by exact id)) ty3 U U)) ?_;refine DrawC.s (fun _ hs=>Bh U (by exact .yes1 U U (hs.slots _ _ U) (by rw [hs.n];rfl)) (Ah hs U) (.tmp (hs.slots _ _ U) (by exact fun _=>rfl))) ?_;refine DrawC.s (fun _ hs=>(by exact Ct U (by exact .yes1 U U (hs.slots _ _ U) (by rw [hs.n];rfl)) (Ah hs U) (.tmp (hs.slots _ _ U) (by exact id)))) ?_;refine DrawC.s (fun _ hs=>(by exact Cj U (by exact .yes1 U U (hs.slots _ _ U) (by rw [hs.n];rfl)) (Ah hs U) (.tmp (hs.slots _ _ U) (by exact id)) fl118_0)) ?_;refine DrawC.s (fun _ hs=>(by exact Cj U (by exact .yes1 U U (hs.slots _ _ U) (by rw [hs.n];rfl)) (Ah hs U) (.tmp (hs.slots _ _ U) (by exact id)) Cl)) ?_
   refine DrawC.s (fun _ hs=>(by exact Ca U (by exact .yes1 U U (hs.slots _ _ U) (by rw [hs.n];rfl)) (Ah hs U) (.tmp (hs.slots _ _ U) (by exact id)) Bz U U)) ?_;refine DrawC.s (fun _ hs=>(by exact Cj U (by exact .yes1 U U (hs.slots _ _ U) (by rw [hs.n];rfl)) (Ah hs U) (.tmp (hs.slots _ _ U) (by exact fun _=>rfl)) fl121_0)) ?_;refine DrawC.s (fun _ hs=>(by exact Ca U (by exact .yes1 U U (hs.slots _ _ U) (by rw [hs.n];rfl)) (Ah hs U) (.tmp (hs.slots _ _ U) (by exact id)) ty3 U U)) ?_;refine DrawC.s (fun _ hs=>(by exact As U (by exact .yes1 U U (hs.slots _ _ U) (by rw [hs.n];rfl)) (Ah hs U) (.tmp (hs.slots _ _ U) (by exact id)) (.tmp (hs.slots _ _ U) (by exact id)) Tryz.underlying40 ty3 (fun hq=>by (try simp at hq);exact⟨by omega,(by exact Al hv.1)⟩))) ?_
   refine DrawC.s (fun _ hs=>(by exact Ca U (by exact .yes1 U U (hs.slots _ _ U) (by rw [hs.n];rfl)) (Ah hs U) (.tmp (hs.slots _ _ U) (by exact id)) ty3 U U)) ?_;refine DrawC.s (fun _ hs=>R_callq U (by exact .yes1 U U (hs.slots _ _ U) (by rw [hs.n];rfl)) (Ah hs U) (.cons (.tmp (hs.slots _ _ U) (by exact id)) (readA_sup hs U) (.cons (.tmp (hs.slots _ _ U) (by exact id)) (readA_sup hs U) (.cons (.tmp (hs.slots _ _ U) (by exact id)) (readA_sup hs U) .nil))) fun hq=>FnT.fr (implacceptsAt a ha m hm (valAt g u) hv.2)) ?_;refine DrawC.s (fun _ hs=>R_and U (.no U) (Ah hs U) (hs.tm U) (.tmp (hs.slots _ _ U) (by exact id))) ?_;refine DrawC.fin U U ?_;refine Aa (Ai (.tm U) (fun h40=>?_) (fun h40=>?_))
   · try simp at h40
     refine Ae (Ar (Av [0,1,3,4] [888888]) ?_);refine Ac (Ak ?_);refine Aa (Am (KRes.mk rfl ?_));refine Bp U U ?_
     (have hr0:r=0:=by (first|omega|(simp at h15;omega)));subst hr0;rw [cwC,if_neg hm0,if_pos (by simpa using h40)]
   try simp at h40
   refine Aj (Ae (Ar (Av [0,1,3,4] [888888]) ?_));refine Ac (Ak ?_);refine Aa (Am (KRes.mk rfl ?_));refine Bp U U ?_
   (have hr0:r=0:=by (first|omega|(simp at h15;omega)));subst hr0;rw [cwC,if_neg hm0,if_neg (by simpa using h40)]
 try simp at h15
 obtain⟨r',rfl⟩:∃ r',r=r'+1:=⟨r-1,by (first|omega|(simp at h15;omega))⟩
 refine Aj (Ae (Ae (Ar (Av [0,1,3,4] [888888]) ?_)));refine AW.dg0 11 17 [[],[0],[4],[0,1],[0,4],[0,1,2],[0,1,4],[0,1,2,3],[0,1,2,4],[0,1,2,3,4],[0,1,2,3,4,5],[0,1,2,3,4,5,6],[0,1,2,3,4,5,6,7],[0,1,2,3,4,5,6,8],[0,1,2,3,4,5,6,7,8],[0,1,2,3,4,5,6,7,9],[0,1,2,3,4,5,6,7,8,9],[0,1,2,3,4,5,6,7,8,9,10]] [(0,0,1),(0,4,2),(1,1,3),(1,4,4),(2,0,4),(3,2,5),(3,4,6),(4,1,6),(5,3,7),(5,4,8),(6,2,8),(7,4,9),(8,3,9),(9,5,10),(10,6,11),(11,7,12),(11,8,13),(12,8,14),(13,7,14),(12,9,15),(14,9,16),(15,8,16),(16,10,17)] (by kernel_rfl) (by kernel_rfl) (by kernel_rfl) ?_;apply Dg.new0 (i:=0)
 case ha|ho|hb=>rfl
 case hE=>
  intro w9  hp
  obtain _:=hp
  refine Ab ?_;exact An [0,1,3,4,42] [888888]
 apply Dg.new0 (i:=4);rfl;rfl;rfl
 · intro w9 _;refine Aq Dw ?_;exact An [0,1,3,4,46] [888888]
 apply Dg.new0 (i:=1);rfl;rfl;rfl
 · intro w9 _;refine Ad (Ct U (.no U) U (.tm U)) U ?_;exact An [0,1,3,4,43] [888888]
 apply Dg.new0 (i:=4);rfl;rfl;rfl
 · intro w9 _;refine Aq Dw ?_;exact An [0,1,3,4,42,46] [888888]
 apply Dg.old0 (i:=0);rfl;rfl;rfl
 · intro w9 _;refine Ab ?_;exact Aa A4
 apply Dg.new0 (i:=2);rfl;rfl;rfl
 · intro w9 _;refine Bg fl118_4 ?_;exact An [0,1,3,4,44] [888888]
 apply Dg.new0 (i:=4);rfl;rfl;rfl
 · intro w9 _;refine Aq Dw ?_;exact An [0,1,3,4,43,46] [888888]
 apply Dg.old0 (i:=1);rfl;rfl;rfl
 · intro w9 _;refine Ad (Ct U (.no U) U (.tm U)) U ?_;exact Aa A4
 apply Dg.new0 (i:=3);rfl;rfl;rfl
 · intro w9 _;refine Aq ty116 ?_;exact An [0,1,3,4,45] [888888]
 apply Dg.new0 (i:=4);rfl;rfl;rfl
 · intro w9 _;refine Aq Dw ?_;exact An [0,1,3,4,44,46] [888888]
 apply Dg.old0 (i:=2);rfl;rfl;rfl
 · intro w9 _;refine Bg fl118_4 ?_;exact Aa A4
 apply Dg.new0 (i:=4);rfl;rfl;rfl
 · intro w9 _;refine Aq Dw ?_;exact An [0,1,3,4,45,46] [888888]
 apply Dg.old0 (i:=3);rfl;rfl;rfl
 · intro w9 _;refine Aq ty116 ?_;exact Aa A4
 apply Dg.drw0 (i:=5)
 case ha=>rfl
 case ho=>rfl
 case hE=>
  intro  hp
  obtain _:=hp
  exact R_look (u:=888888) mapTy rfl rfl rfl (.tm rfl) rfl (.tm rfl) hwf
 case hb=>rfl
 case hL=>
  intro  z47 hp hy;exact EndQ.eq (Av [0,1,3,4,47] [888888]) U
 apply Dg.new1 (i:=6);rfl;rfl;rfl
 · intro w9 z47 hp
   obtain⟨_,hz47⟩:=hp
   refine Ad (R_movet U (.no U) U U fun _=>rfl) U ?_;exact An [0,1,3,4,41] [888888]
 apply Dg.new1 (i:=7);rfl;rfl;rfl
 · intro w9 z47 hp
   obtain⟨_,hz47⟩:=hp
   refine Ad (B6 U (.no U) U U (fun _=>rfl) U) U ?_;exact An [0,1,3,4,41,48] [888888]
 apply Dg.new1 (i:=8);rfl;rfl;rfl
 · intro w9 z47 hp
   obtain⟨_,hz47⟩:=hp
   refine Ad (B6 U (.no U) U U (fun _=>rfl) U) U ?_;exact An [0,1,3,4,41,49] [888888]
 apply Dg.new1 (i:=8);rfl;rfl;rfl
 · intro w9 z47 hp
   obtain⟨_,hz47⟩:=hp
   refine Ad (B6 U (.no U) U U (fun _=>rfl) U) U ?_;exact An [0,1,3,4,48,49] [888888]
 apply Dg.old1 (i:=7);rfl;rfl;rfl
 · intro w9 z47 hp
   obtain⟨_,hz47⟩:=hp
   refine Ad (B6 U (.no U) U U (fun _=>rfl) U) U ?_;exact Aa A4
 apply Dg.new1 (i:=9);rfl;rfl;rfl
 · intro w9 z47 hp
   obtain⟨_,hz47⟩:=hp
   refine Ag ?_;exact An [0,1,3,4,5,41] [888888]
 apply Dg.new1 (i:=9);rfl;rfl;rfl
 · intro w9 z47 hp
   obtain⟨_,hz47⟩:=hp
   refine Ag ?_;exact An [0,1,3,4,5,49] [888888]
 apply Dg.old1 (i:=8);rfl;rfl;rfl
 · intro w9 z47 hp
   obtain⟨_,hz47⟩:=hp
   refine Ad (B6 U (.no U) U U (fun _=>rfl) U) U ?_;exact Aa A4
 apply Dg.new1 (i:=10);rfl;rfl;rfl
 · intro w9 z47 hp
   obtain⟨_,hz47⟩:=hp
   refine Ag ?_;exact An [0,1,3,4,5,6] [888888]
 refine Dg.fin1 (k:=17) U ?_;intro z47 hp
 obtain⟨_,hz47⟩:=hp
 refine Aa (Af (Ab ?_));refine Aa (Ai (.tm U) (fun h50=>?_) (fun h50=>?_))
 · try simp at h50
   refine Af (Ab ?_);refine Ag ?_;refine Aa (Am (KRes.mk rfl ?_));refine Bp U U ?_;exact congrArg (Value.int .i64) ((hz47 h50).trans (knF_at g a c y u m (r'+1)))
 try simp at h50
 refine Aj (Af (Ak ?_));refine Aa (Ae (Ae (B8 10 (nthB [[],[0],[0,1],[0,1,2],[],[4],[0,1,2,3,4,5],[0,1,2,3,4,5,6],[0,1,2,3,4,5,6,7],[]]) (by kernel_rfl) (by kernel_rfl) (by kernel_rfl) ?_)));refine Aw ?_;refine DrawC.s (fun _ hs=>(Ct U (.no U) (Ah hs U) (hs.tm U))) ?_;refine B9 fl118_3 ?_;refine Bj ty104 ?_;refine B9 fl121_0 ?_;refine Bj ty3 ?_;refine DrawC.s (fun _ hs=>(by exact As U (.no U) (Ah hs U) (hs.tm U) (hs.tm U) Tryz.underlying104 ty175 (fun _=>⟨by omega,(by exact Al (arcsCV_at hu))⟩))) ?_;refine Bj ty175 ?_;refine DrawC.s (fun _ hs=>(by exact Dp U (.no U) (Ah hs U) (hs.tm U) (by exact .t) Tryz.underlying175)) ?_;refine DrawC.s (fun _ hs=>Bh U (.no U) (Ah hs U) (.const U)) ?_;refine DrawC.fin U U ?_
 refine Aa (AW.block (Cz (fun (j:Nat) (N:Int)=>(j≤(arcsC g c u).length)∧N=cwT g a c y r' u m j) (fun (j:Nat) (N:Int)=>⟨_,[(61,(true,.a (.one (.t (.v (.int .i64 (j:Nat))))))),(7,(true,.a (.one (.t (.v (.int .i64 N)))))),(0,_),(3,_),(4,_),(59,_),(60,_)],[(888888,.mp b (knF g a c y))]⟩) (fun (j:Nat) (N:Int)=>(arcsC g c u).length-j) (0) (0) ⟨Nat.zero_le _,U⟩ A4 ?_))
 rintro j N ⟨hk,he⟩
 refine Af (AWl.lt ?_);refine Aa (Ae (Ai (.tm U) (fun h62=>?_) (fun h62=>?_)))
 · try simp at h62
   obtain⟨z,hz⟩:∃ ξ,(arcsC g c u)[j]?=some ξ:=⟨_,List.getElem?_eq_getElem (by omega)⟩
   have hza:=(List.mem_filter.1 (List.mem_of_getElem? hz)).1
   have hzo:=arc_mem hg hza
   have hlt:=aftS_lt ha hm hv.2 (k:=z.letter) ⟨hzo.1,by omega⟩
   have hcr:=cwC_rng g a c y r' z.to (aftS a m (valAt g u) z.letter)
   have htr:=cwT_rng g a c y r' u m j
   refine Aj (Ae (AW.block (Af (Ad (by exact As U (.no U) U (.tm U) (.tm U) Tryz.underlying175 ty178 (fun _=>⟨by omega,(by exact Al hz)⟩)) U ?_))));refine Aq ty178 ?_;refine A6 (Bi 9 U U U in178 U U U) U ?_;refine Az ty178 ?_;refine Aa (Ac (Ab ?_));refine Ab ?_;refine Ab ?_;refine Aq Dw ?_;refine A9 ty178 ?_;refine Ad (Bc (FnT.fr (implcounternext g a ha hg y (arcsCV g c) b u hu m hm r' (by omega) z hza)) U (.no U) U (.cons (.tm U) U (.cons (.tm U) U (.cons (.tm U) U .nil)))) U ?_;refine Cc (R_callK (u:=888888) 7100 (ih r' (by omega) (by omega) z.to hzo.2.2 (aftS a m (valAt g u) z.letter) hlt) U U U U U (.cons (.tm U) U (.cons (.tm U) U .nil)) U U) U ?_;refine Ad (C7 U (.no U) U (.tm U) (.tm U) (fun _=>by omega)) U ?_;refine Ad (R_min U (.no U) U (.const U) (.tm U)) U ?_;refine Ag ?_;refine Aa (Ar (Av [0,3,4,7,9,59,60,61] [888888,9]) ?_);refine Ac (A8 ?_);refine Ab ?_;refine Aa ?_
   repeat (with_reducible refine Au ?_)
   refine Round2.next (j+1) (min 1000000 (N+cwC g a c y r' z.to (aftS a m (valAt g u) z.letter))) ⟨by omega,by rw [he,←cwT_at hz]⟩ (by omega) (Ap rfl ⟨rfl,rfl,rfl,rfl,rfl,rfl,rfl,Y⟩ ⟨(by rfl),Y⟩)
 try simp at h62
 refine Bb (Ae (AW.dagn 7 20 [[],[0],[4],[5],[0,1],[0,4],[0,5],[4,5],[0,1,2],[0,1,4],[0,1,5],[0,4,5],[0,1,2,3],[0,1,2,4],[0,1,2,5],[0,1,4,5],[0,1,2,3,4],[0,1,2,3,5],[0,1,2,4,5],[0,1,2,3,4,5],[0,1,2,3,4,5,6]] [(0,0,1),(0,4,2),(0,5,3),(1,1,4),(1,4,5),(2,0,5),(1,5,6),(3,0,6),(2,5,7),(3,4,7),(4,2,8),(4,4,9),(5,1,9),(4,5,10),(6,1,10),(5,5,11),(7,0,11),(6,4,11),(8,3,12),(8,4,13),(9,2,13),(8,5,14),(10,2,14),(9,5,15),(11,1,15),(10,4,15),(12,4,16),(13,3,16),(12,5,17),(14,3,17),(13,5,18),(15,2,18),(14,4,18),(16,5,19),(18,3,19),(17,4,19),(19,6,20)] (by kernel_rfl) (by kernel_rfl) (by kernel_rfl) ?_));apply Ay (i:=0)
 case ha|ho|hb=>rfl
 case hE=>
  intro w9;refine Ab ?_;exact An [0,3,4,7,59,60,61,62,75] [888888]
 apply Ay (i:=4);rfl;rfl;rfl
 · intro w9;refine Aq Dw ?_;exact An [0,3,4,7,59,60,61,62,79] [888888]
 apply Ay (i:=5);rfl;rfl;rfl
 · intro w9;refine Ab ?_;exact An [0,3,4,7,59,60,61,62,80] [888888]
 apply Ay (i:=1);rfl;rfl;rfl
 · intro w9;refine Ad (Ct U (.no U) U (.tm U)) U ?_;exact An [0,3,4,7,59,60,61,62,76] [888888]
 apply Ay (i:=4);rfl;rfl;rfl
 · intro w9;refine Aq Dw ?_;exact An [0,3,4,7,59,60,61,62,75,79] [888888]
 apply A3 (i:=0);rfl;rfl;rfl
 · intro w9;refine Ab ?_;exact Aa A4
 apply Ay (i:=5);rfl;rfl;rfl
 · intro w9;refine Ab ?_;exact An [0,3,4,7,59,60,61,62,75,80] [888888]
 apply A3 (i:=0);rfl;rfl;rfl
 · intro w9;refine Ab ?_;exact Aa A4
 apply Ay (i:=5);rfl;rfl;rfl
 · intro w9;refine Ab ?_;exact An [0,3,4,7,59,60,61,62,79,80] [888888]
 apply A3 (i:=4);rfl;rfl;rfl
 · intro w9;refine Aq Dw ?_;exact Aa A4
 apply Ay (i:=2);rfl;rfl;rfl
 · intro w9;refine Bg fl118_4 ?_;exact An [0,3,4,7,59,60,61,62,77] [888888]
 apply Ay (i:=4);rfl;rfl;rfl
 · intro w9;refine Aq Dw ?_;exact An [0,3,4,7,59,60,61,62,76,79] [888888]
 apply A3 (i:=1);rfl;rfl;rfl
 · intro w9;refine Ad (Ct U (.no U) U (.tm U)) U ?_;exact Aa A4
 apply Ay (i:=5);rfl;rfl;rfl
 · intro w9;refine Ab ?_;exact An [0,3,4,7,59,60,61,62,76,80] [888888]
 apply A3 (i:=1);rfl;rfl;rfl
 · intro w9;refine Ad (Ct U (.no U) U (.tm U)) U ?_;exact Aa A4
 apply Ay (i:=5);rfl;rfl;rfl
 · intro w9;refine Ab ?_;exact An [0,3,4,7,59,60,61,62,75,79,80] [888888]
 apply A3 (i:=0);rfl;rfl;rfl
 · intro w9;refine Ab ?_;exact Aa A4
 apply A3 (i:=4);rfl;rfl;rfl
 · intro w9;refine Aq Dw ?_;exact Aa A4
 apply Ay (i:=3);rfl;rfl;rfl
 · intro w9;refine Aq ty116 ?_;exact An [0,3,4,7,59,60,61,62,78] [888888]
 apply Ay (i:=4);rfl;rfl;rfl
 · intro w9;refine Aq Dw ?_;exact An [0,3,4,7,59,60,61,62,77,79] [888888]
 apply A3 (i:=2);rfl;rfl;rfl
 · intro w9;refine Bg fl118_4 ?_;exact Aa A4
 apply Ay (i:=5);rfl;rfl;rfl
 · intro w9;refine Ab ?_;exact An [0,3,4,7,59,60,61,62,77,80] [888888]
 apply A3 (i:=2);rfl;rfl;rfl
 · intro w9;refine Bg fl118_4 ?_;exact Aa A4
 apply Ay (i:=5);rfl;rfl;rfl
 · intro w9;refine Ab ?_;exact An [0,3,4,7,59,60,61,62,76,79,80] [888888]
 apply A3 (i:=1);rfl;rfl;rfl
 · intro w9;refine Ad (Ct U (.no U) U (.tm U)) U ?_;exact Aa A4
 apply A3 (i:=4);rfl;rfl;rfl
 · intro w9;refine Aq Dw ?_;exact Aa A4
 apply Ay (i:=4);rfl;rfl;rfl
 · intro w9;refine Aq Dw ?_;exact An [0,3,4,7,59,60,61,62,78,79] [888888]
 apply A3 (i:=3);rfl;rfl;rfl
 · intro w9;refine Aq ty116 ?_;exact Aa A4
 apply Ay (i:=5);rfl;rfl;rfl
 · intro w9;refine Ab ?_;exact An [0,3,4,7,59,60,61,62,78,80] [888888]
 apply A3 (i:=3);rfl;rfl;rfl
 · intro w9;refine Aq ty116 ?_;exact Aa A4
 apply Ay (i:=5);rfl;rfl;rfl
 · intro w9;refine Ab ?_;exact An [0,3,4,7,59,60,61,62,77,79,80] [888888]
 apply A3 (i:=2);rfl;rfl;rfl
 · intro w9;refine Bg fl118_4 ?_;exact Aa A4
 apply A3 (i:=4);rfl;rfl;rfl
 · intro w9;refine Aq Dw ?_;exact Aa A4
 apply Ay (i:=5);rfl;rfl;rfl
 · intro w9;refine Ab ?_;exact An [0,3,4,7,59,60,61,62,78,79,80] [888888]
 apply A3 (i:=3);rfl;rfl;rfl
 · intro w9;refine Aq ty116 ?_;exact Aa A4
 apply A3 (i:=4);rfl;rfl;rfl
 · intro w9;refine Aq Dw ?_;exact Aa A4
 apply Ay (i:=6);rfl;rfl;rfl
 · intro w9;refine AWl.chgb (R_mapUpd (u:=888888) mapTy U U U (.tm U) U U (.tm U) hwf (.tm U) (by rw [he,knF_at];exact cwT_all hm0 (by omega))) ?_;exact An [0,3,4,7,59,60,61,62] [888888]
 refine Dag.fin (k:=20) U ?_;refine Aa (Af (Ab ?_));refine Ag ?_;refine Aa (Am (KRes.mk rfl ?_));refine Bp U U ?_
 rw [he];exact congrArg (Value.int .i64) (cwT_all hm0 (by omega))
end Go.Proofs.YtbecibmlbiebeaaGreat
