import Derived.Test.YtdhojcaoljhbiaaGreatB142xc
import Derived.Test.YtdhojcaoljhbiaaGreatB71xc
import Derived.Test.YtdhojcaoljhbiaaGreatKnnxc
import Derived.Test.YtdhojcaoljhbiaaGreatDraw5xc
set_option linter.unusedVariables false
set_option linter.unusedSimpArgs false
set_option maxHeartbeats 1000000
set_option maxRecDepth 100000
open Go.Proofs.Tryz renaming prog->Z9,underlying108->ZA,underlying148->ZB,underlying52->ZC,underlying40->ZE,underlying88->ZG,underlying3->ZL,underlying103->ZM,func127->ZN,ntmps127->ZO,func66->ZP,ntmps66->ZQ,func128->ZR,ntmps128->ZS,func65->ZT,ntmps65->ZU
open List renaming getElem?_eq_getElem->ZI,mem_filter->ZJ,mem_of_getElem?->ZK
namespace Go.Q
open Go.D Go.Proofs.YtdhojcaoljhbiaaGreat
def VX (g:AC) (a:AA) (y:Int) (l:List (List DB)) (b:Nat):List T:=AG g++(AE a++[.v (.int .i64 y),.sl 1 (l.map Oi),.v (.map (some b))])
def Vu (u:Int) (m:Nat) (r:Int):V0:=.agg [.v (.int .i64 u),.v (.int .i64 (m:Int)),.v (.int .i64 r)]
def knF (g:AC) (a:AA) (c y u m r:Int):Int:=cwC g a c y r.toNat u m.toNat
theorem V5 (g:AC) (a:AA) (c y u:Int) (m r:Nat):knF g a c y u m r=cwC g a c y r u m:=rfl
theorem P2 {g:AC} {c:Int} {x:Int} (hx:0≤x∧x<g.Values.length):(Fa g c)[x.toNat]?=some (CB g c x):=by
 unfold Fa
 rw [CD _ (by omega),Int.toNat_of_nonneg hx.1]
theorem ND {g:AC} {a:AA} {c y:Int} {r:Nat} {u:Int} {m:Nat} {z:DB} (h:H7 g a c y r u m=some z):z∈CB g c u∧0<cwC g a c y r z.to (DX a m (AL g u) z.letter):=⟨List.mem_of_find?_eq_some h,by simpa using List.find?_some h⟩
theorem Sk {x:Int} (h0:0≤x) (h1:x≤1000000000):wfI x:=⟨by omega,by omega⟩
open Go.RowKit Go.WideMaps Go.ChangeMaps
theorem SF:laidOutB Z9=true:=by kernel_rfl
theorem Yy:KeyLaw Z9 108:=deep_law_laid SF (m:=2) (by omega) (of_decide_eq_true (by kernel_rfl)) (by kernel_rfl) (by rw [ZA])
theorem Xd:Z9.keyType 108=true:=by kernel_rfl
theorem Xe (x y z:Int) (h:wfI x∧wfI y∧wfI z):∃ l,keyOf Z9 108 (.agg #[.int .i64 x,.int .i64 y,.int .i64 z])=some l:=by
 obtain⟨hx,hy,hz⟩:=h
 have e1:IntKind.i64.min=-9223372036854775808:=by decide
 have e2:IntKind.i64.max=9223372036854775807:=by decide
 have hw:∀ q:Int,wfI q→(Lit.int .i64 q).wf=true:=fun q hq=>by
  unfold wfI at hq
  simp only [Lit.wf,e1,e2,Bool.and_eq_true,decide_eq_true_eq]
  exact hq
 have h0:0<Z9.types.size:=of_decide_eq_true (by kernel_rfl)
 obtain⟨d,hd⟩:∃ d,Z9.types.size=d+1:=⟨Z9.types.size-1,by omega⟩
 have hf:(Value.agg #[.int .i64 x,.int .i64 y,.int .i64 z]).formed Z9 108=true:=by
  simp only [Value.formed,ZA]
  kernel_rfl
 have hc:Z9.cellsOf 108=3:=by kernel_rfl
 have hc3:Z9.cellsOf 3=1:=by kernel_rfl
 have hl:∀ q:Int,wfI q→Z9.keyLits (d+1) 3 [.int .i64 q]=some [.int .i64 q]:=fun q hq=>by
  unfold Program.keyLits
  rw [ZL]
  simp [hw q hq]
 refine Option.isSome_iff_exists.1 ?_
 unfold keyOf
 rw [ZA]
 simp only [Xd,hf,hd,Value.cells,Bool.and_self,if_true,Option.isSome_map]
 unfold Program.keyLits
 rw [ZA]
 simp [hc,hc3,hl x hx,hl y hy,hl z hz]
theorem XT:O3 Z9 103 108 3 where
 map:=ZM
 law:=Yy
 zero:=fun w=>by kernel_rfl
 key:=Xe
theorem IF (g:AC) (a:AA) (ha:AJ a=true) (hg:AI g=true) (y:Int) (l:List (List DB)) (b:Nat) (u:Int) (hu:0≤u∧u<g.Values.length) (m:Nat) (hm:m<2^a.Accept.length) (r:Nat) (hr:r≤1000) (z:DB) (hz:z∈AV g u):FnT Z9 127 [.one (.ad (VX g a y l b)),Vu u m (r+1:Nat),.agg (GU z)] (.a (Vu z.to (DX a m (AL g u) z.letter) r)):=by
 refine A8 ZN U (by kernel_rfl) ZO U fun hlen w0=>?_
 try simp [BC,AS,BH,AP,AG,BG,BO,CF,DE,BW,BA,AE,AK,BJ,AT,Em,DD,AZ,BN] at hlen
 have hv:=CH hg hu
 have hzo:=DO hg hz
 have hP:=DC ha
 refine Af (Ac (Bg U U U (.tm U) (ts:=_) (by rfl)) U ?_);refine Ac (Bg U U U (.tm U) (ts:=_) (by rfl)) U ?_;refine A6 (Bd 6 U U U Ry U U U) U ?_;refine Aa (Ae (Bx 24 (DM [[],[0],[],[2],[2,3],[2,3,4],[],[6],[],[8],[8,9],[8,9,10],[8,9,10,11],[],[13],[8,9,10,11,12,13,14],[8,9,10,11,12,13,14,15],[],[17],[2,3,4,5,6,7,8,9,10,11,12,13,14,15,16,17,18],[],[20],[20,21],[0,1,2,3,4,5,6,7,8,9,10,11,12,13,14,15,16,17,18,19,20,21,22]]) (by kernel_rfl) (by kernel_rfl) (by kernel_rfl) ?_));refine Bz Ql ?_;refine A5 ty3 ?_;refine Az ?_;refine AB.s (fun _ hs=>(C1 U (.no U) (Ag hs U) (hs.tm U))) ?_;refine Bz Qp ?_;refine A5 B6 ?_;refine Bz Qn ?_;refine A5 ty3 ?_;refine Az ?_;refine AB.s (fun _ hs=>(by exact C1 U (.no U) (Ag hs U) (hs.tm U))) ?_;refine Bz TO ?_;refine Bz Ci ?_;refine A5 Cc ?_;refine Bz Ll ?_;refine A5 ty3 ?_
 refine AB.s (fun _ hs=>(by exact Ak U (.no U) (Ag hs U) (hs.tm U) (hs.tm U) ZE ty3 (fun _=>⟨by omega,(by exact Ao hv.1)⟩))) ?_;refine A5 ty3 ?_;refine Bz TN ?_;refine A5 ty3 ?_;refine AB.s (fun _ hs=>Bc (FnT.fr (Pr a ha m hm (AL g u) z.letter hv.2 ⟨hzo.1,by omega⟩)) U (.no U) (Ag hs U) (.cons (hs.tm U) (AD hs U) (.cons (hs.tm U) (AD hs U) (.cons (hs.tm U) (AD hs U) (.cons (hs.tm U) (AD hs U) .nil))))) ?_;refine Bz Qm ?_;refine A5 ty3 ?_;refine AB.s (fun _ hs=>D8 U (.no U) (Ag hs U) (hs.tm U) (.const U) (fun _=>by omega)) ?_;refine AB.s (fun _ hs=>Bm (ps:=[(0,.tmp 8),(1,.tmp 26),(2,.tmp 29)]) U U (Ag hs U) Ry U U XQ (.cons (hs.tm U) U U TM (.cons (hs.tm U) U U TL (.cons (hs.tm U) U U TK .nil))) U) ?_;refine Bs U U ?_;refine A4 Dt ?_;refine Aa (Aq (Res.one U (.cell U U Dt U U .nil) U ?_))
 refine congrArg (fun x:Int=>[V0.agg [.v (.int .i64 z.to),.v (.int .i64 ((DX a m (AL g u) z.letter:Nat):Int)),.v (.int .i64 x)]]) (by omega)
theorem LJ (g:AC) (a:AA) (ha:AJ a=true) (y:Int) (l:List (List DB)) (b:Nat) (x n:Int):FnT Z9 66 [.one (.ad (VX g a y l b)),.one (.v (.int .i64 x)),.one (.v (.int .i64 n))] (.a (Vu x (2^a.Start.toNat) n)):=by
 refine A8 ZP U (by kernel_rfl) ZQ U fun hlen w0=>?_
 try simp [BC,AS,BH,AP,AG,BG,BO,CF,DE,BW,BA,AE,AK,BJ,AT,Em,DD,AZ,BN] at hlen
 have hA:=AR ha
 refine Af (A6 (Bd 6 U U U Ry U U U) U ?_);refine Aa (Af (Ab ?_));refine Ab ?_;refine Ac (C1 U (.no U) U (.tm U)) U ?_;refine A7 Qp ?_;refine A7 Jn ?_;refine Aj ty3 ?_;refine Ac (F9 U (.no U) U (.const U) (.tm U) (fun _=>by omega)) U ?_;refine Ab ?_;refine Ac (Bm (ps:=[(0,.tmp 7),(1,.tmp 13),(2,.tmp 14)]) U U U Ry U U XQ (.cons (.tm U) U U TM (.cons (.tm U) U U TL (.cons (.tm U) U U TK .nil))) U) U ?_;refine A4 Dt ?_;refine Aa (Aq (Res.one U (.cell U U Dt U U .nil) U ?_));refine congrArg (fun q:Int=>[V0.agg [.v (.int .i64 x),.v (.int .i64 q),.v (.int .i64 n)]]) (by simp)
theorem LK (g:AC) (a:AA) (ha:AJ a=true) (hg:AI g=true) (c y:Int) (b:Nat):∀ (r:Nat),r≤1000→∀ (u:Int),0≤u∧u<g.Values.length→∀ (m:Nat),m<2^a.Accept.length→FnK Z9 128 b (knF g a c y) [.one (.ad (VX g a y (Fa g c) b)),Vu u m r] (.a (.one (.v (.int .i64 (cwC g a c y r u m))))):=by
 intro r
 induction r using Nat.strongRecOn with
 | ind r ih=>
 intro hr u hu m hm;refine FnK.walk ZR rfl (by kernel_rfl) ZS rfl rfl fun w0=>?_
 have hv:=CH hg hu
 have hP:=DC ha
 have hG:=CA hg
 have hwf:wfI u∧wfI (m:Int)∧wfI (r:Int):=⟨Sk hu.1 (by omega),Sk (by omega) (by omega),Sk (by omega) (by omega)⟩
 have hal:=JS hg c u
 refine Af (Ac (Bg U U U (.tm U) (ts:=_) (by rfl)) U ?_);refine An ?_;refine Aa (Ae (Af (A7 Qn ?_)));refine Aj ty3 ?_;refine Bw ?_;refine Aa (Ai (.tm U) (fun h12=>?_) (fun h12=>?_))
 · try simp at h12
   refine Af (An ?_);refine Aa (Aq (O4.mk rfl ?_));refine Bl U U ?_
   (have hm0:m=0:=by (first|omega|(simp at h12;omega)));subst hm0;cases r<;>simp [cwC]
 try simp at h12
 have hm0:m≠0:=by (first|omega|(simp at h12;omega))
 refine Am (Ae (Af (A7 Qm ?_)));refine Aj ty3 ?_;refine Bw ?_;refine Aa (Ai (.tm U) (fun h15=>?_) (fun h15=>?_))
 · try simp at h15
   refine Ae (Ae (As (Ay [0,1,3,4] [888888]) ?_));refine Bx 25 (DM [[],[0],[],[2],[2,3],[2,3,4],[0,1,2,3,4,5],[0,1,2,3,4,5,6],[0,1,2,3,4,5,6,7],[0,1,2,3,4,5,6,7,8],[0,1,2,3,4,5,6,7,8,9],[0,1,2,3,4,5,6,7,8,9,10],[0,1,2,3,4,5,6,7],[0,1,2,3,4,5,6,7,12],[0,1,2,3,4,5,6,7],[0,1,2,3,4,5,6,7,14],[0,1,2,3,4,5,6,7,14,15],[0,1,2,3,4,5,6,7,14,15,16],[0,1,2,3,4,5,6,7,14,15,16,17],[0,1,2,3,4,5,6,7],[0,1,2,3,4,5,6,7,19],[0,1,2,3,4,5,6,7,14,15,16,17,18,19,20],[0,1,2,3,4,5,6,7,14,15,16,17,18,19,20,21],[0,1,2,3,4,5,6,7,8,9,10,11,12,13,14,15,16,17,18,19,20,21,22],[0,1,2,3,4,5,6,7,8,9,10,11,12,13,14,15,16,17,18,19,20,21,22,23]]) (by kernel_rfl) (by kernel_rfl) (by kernel_rfl) ?_;refine Bz Ll ?_;refine A5 ty3 ?_;refine Az ?_;refine AB.s (fun _ hs=>(by exact C1 U (.no U) (Ag hs U) (hs.tm U))) ?_;refine Bz Xz ?_;refine A5 ty3 ?_
   refine AB.s (fun _ hs=>Kc U (.no U) (Ag hs U) (hs.tm U) (hs.tm U)) ?_;refine Az ?_;refine AB.s (fun _ hs=>Bh U (by exact hs.y1) (Ag hs U) (hs.tm U)) ?_;refine AB.s (fun _ hs=>(by exact C1 U (by exact hs.y1) (Ag hs U) (hs.ti U))) ?_;refine AB.s (fun _ hs=>(by exact Bu U (by exact hs.y1) (Ag hs U) (hs.ti U) Qp)) ?_;refine AB.s (fun _ hs=>(by exact Br U (by exact hs.y1) (Ag hs U) (hs.ti U) B6 U U)) ?_;refine AB.s (fun _ hs=>(by exact Bu U (by exact hs.y1) (Ag hs U) (hs.tm U) Qn)) ?_;refine AB.s (fun _ hs=>(by exact Br U (by exact hs.y1) (Ag hs U) (hs.ti U) ty3 U U)) ?_;refine AB.s (fun _ hs=>Bh U (by exact hs.y1) (Ag hs U) (hs.tm U)) ?_;refine AB.s (fun _ hs=>(by exact C1 U (by exact hs.y1) (Ag hs U) (hs.ti U))) ?_;refine AB.s (fun _ hs=>(by exact Bu U (by exact hs.y1) (Ag hs U) (hs.ti U) TO)) ?_
   refine AB.s (fun _ hs=>(by exact Bu U (by exact hs.y1) (Ag hs U) (hs.ti U) Ci)) ?_;refine AB.s (fun _ hs=>(by exact Br U (by exact hs.y1) (Ag hs U) (hs.ti U) Cc U U)) ?_;refine AB.s (fun _ hs=>(by exact Bu U (by exact hs.y1) (Ag hs U) (hs.tm U) Ll)) ?_;refine AB.s (fun _ hs=>(by exact Br U (by exact hs.y1) (Ag hs U) (hs.ti U) ty3 U U)) ?_;refine AB.s (fun _ hs=>(by exact Ak U (by exact hs.y1) (Ag hs U) (hs.ti U) (hs.ti U) ZE ty3 (fun hq=>by (try simp at hq);exact⟨by omega,(by exact Ao hv.1)⟩))) ?_;refine AB.s (fun _ hs=>(by exact Br U (by exact hs.y1) (Ag hs U) (hs.ti U) ty3 U U)) ?_;refine AB.s (fun _ hs=>Cw U (by exact hs.y1) (Ag hs U) (.cons (hs.ti U) (AD hs U) (.cons (hs.ti U) (AD hs U) (.cons (hs.ti U) (AD hs U) .nil))) fun hq=>FnT.fr (Km a ha m hm (AL g u) hv.2)) ?_
   refine AB.s (fun _ hs=>IJ U (.no U) (Ag hs U) (hs.tm U) (hs.ti U)) ?_;refine Bs U U ?_;refine Aa (Ai (.tm U) (fun h40=>?_) (fun h40=>?_))
   · try simp at h40
     refine Ae (As (Ay [0,1,3,4] [888888]) ?_);refine Ad (An ?_);refine Aa (Aq (O4.mk rfl ?_));refine Bl U U ?_
     (have hr0:r=0:=by (first|omega|(simp at h15;omega)));subst hr0;rw [cwC,if_neg hm0,if_pos (by simpa using h40)]
   try simp at h40
   refine Am (Ae (As (Ay [0,1,3,4] [888888]) ?_));refine Ad (An ?_);refine Aa (Aq (O4.mk rfl ?_));refine Bl U U ?_
   (have hr0:r=0:=by (first|omega|(simp at h15;omega)));subst hr0;rw [cwC,if_neg hm0,if_neg (by simpa using h40)]
 try simp at h15
 obtain⟨r',rfl⟩:∃ r',r=r'+1:=⟨r-1,by (first|omega|(simp at h15;omega))⟩
 refine Am (Ae (Ae (As (Ay [0,1,3,4] [888888]) ?_)));refine AW.dg0 11 17 [[],[0],[4],[0,1],[0,4],[0,1,2],[0,1,4],[0,1,2,3],[0,1,2,4],[0,1,2,3,4],[0,1,2,3,4,5],[0,1,2,3,4,5,6],[0,1,2,3,4,5,6,7],[0,1,2,3,4,5,6,8],[0,1,2,3,4,5,6,7,8],[0,1,2,3,4,5,6,7,9],[0,1,2,3,4,5,6,7,8,9],[0,1,2,3,4,5,6,7,8,9,10]] [(0,0,1),(0,4,2),(1,1,3),(1,4,4),(2,0,4),(3,2,5),(3,4,6),(4,1,6),(5,3,7),(5,4,8),(6,2,8),(7,4,9),(8,3,9),(9,5,10),(10,6,11),(11,7,12),(11,8,13),(12,8,14),(13,7,14),(12,9,15),(14,9,16),(15,8,16),(16,10,17)] (by kernel_rfl) (by kernel_rfl) (by kernel_rfl) ?_;apply Dg.new0 (i:=0)
 case ha|ho|hb=>rfl
 case hE=>
  intro w9  hp
  obtain _:=hp
  refine Ab ?_;exact Al [0,1,3,4,42] [888888]
 apply Dg.new0 (i:=4);rfl;rfl;rfl
 · intro w9 _;refine Aj Dt ?_;exact Al [0,1,3,4,46] [888888]
 apply Dg.new0 (i:=1);rfl;rfl;rfl
 · intro w9 _;refine Ac (C1 U (.no U) U (.tm U)) U ?_;exact Al [0,1,3,4,43] [888888]
 apply Dg.new0 (i:=4);rfl;rfl;rfl
 · intro w9 _;refine Aj Dt ?_;exact Al [0,1,3,4,42,46] [888888]
 apply Dg.old0 (i:=0);rfl;rfl;rfl
 · intro w9 _;refine Ab ?_;exact Aa Aw
 apply Dg.new0 (i:=2);rfl;rfl;rfl
 · intro w9 _;refine A7 JM ?_;exact Al [0,1,3,4,44] [888888]
 apply Dg.new0 (i:=4);rfl;rfl;rfl
 · intro w9 _;refine Aj Dt ?_;exact Al [0,1,3,4,43,46] [888888]
 apply Dg.old0 (i:=1);rfl;rfl;rfl
 · intro w9 _;refine Ac (C1 U (.no U) U (.tm U)) U ?_;exact Aa Aw
 apply Dg.new0 (i:=3);rfl;rfl;rfl
 · intro w9 _;refine Aj OQ ?_;exact Al [0,1,3,4,45] [888888]
 apply Dg.new0 (i:=4);rfl;rfl;rfl
 · intro w9 _;refine Aj Dt ?_;exact Al [0,1,3,4,44,46] [888888]
 apply Dg.old0 (i:=2);rfl;rfl;rfl
 · intro w9 _;refine A7 JM ?_;exact Aa Aw
 apply Dg.new0 (i:=4);rfl;rfl;rfl
 · intro w9 _;refine Aj Dt ?_;exact Al [0,1,3,4,45,46] [888888]
 apply Dg.old0 (i:=3);rfl;rfl;rfl
 · intro w9 _;refine Aj OQ ?_;exact Aa Aw
 apply Dg.drw0 (i:=5)
 case ha=>rfl
 case ho=>rfl
 case hE=>
  intro  hp
  obtain _:=hp
  exact YJ (u:=888888) XT rfl rfl rfl (.tm rfl) rfl (.tm rfl) hwf
 case hb=>rfl
 case hL=>
  intro  z47 hp hy;exact CV.eq (Ay [0,1,3,4,47] [888888]) U
 apply Dg.new1 (i:=6);rfl;rfl;rfl
 · intro w9 z47 hp
   obtain⟨_,hz47⟩:=hp
   refine Ac (Dd U (.no U) U U fun _=>rfl) U ?_;exact Al [0,1,3,4,41] [888888]
 apply Dg.new1 (i:=7);rfl;rfl;rfl
 · intro w9 z47 hp
   obtain⟨_,hz47⟩:=hp
   refine Ac (Bk U (.no U) U U (fun _=>rfl) U) U ?_;exact Al [0,1,3,4,41,48] [888888]
 apply Dg.new1 (i:=8);rfl;rfl;rfl
 · intro w9 z47 hp
   obtain⟨_,hz47⟩:=hp
   refine Ac (Bk U (.no U) U U (fun _=>rfl) U) U ?_;exact Al [0,1,3,4,41,49] [888888]
 apply Dg.new1 (i:=8);rfl;rfl;rfl
 · intro w9 z47 hp
   obtain⟨_,hz47⟩:=hp
   refine Ac (Bk U (.no U) U U (fun _=>rfl) U) U ?_;exact Al [0,1,3,4,48,49] [888888]
 apply Dg.old1 (i:=7);rfl;rfl;rfl
 · intro w9 z47 hp
   obtain⟨_,hz47⟩:=hp
   refine Ac (Bk U (.no U) U U (fun _=>rfl) U) U ?_;exact Aa Aw
 apply Dg.new1 (i:=9);rfl;rfl;rfl
 · intro w9 z47 hp
   obtain⟨_,hz47⟩:=hp
   refine Ah ?_;exact Al [0,1,3,4,5,41] [888888]
 apply Dg.new1 (i:=9);rfl;rfl;rfl
 · intro w9 z47 hp
   obtain⟨_,hz47⟩:=hp
   refine Ah ?_;exact Al [0,1,3,4,5,49] [888888]
 apply Dg.old1 (i:=8);rfl;rfl;rfl
 · intro w9 z47 hp
   obtain⟨_,hz47⟩:=hp
   refine Ac (Bk U (.no U) U U (fun _=>rfl) U) U ?_;exact Aa Aw
 apply Dg.new1 (i:=10);rfl;rfl;rfl
 · intro w9 z47 hp
   obtain⟨_,hz47⟩:=hp
   refine Ah ?_;exact Al [0,1,3,4,5,6] [888888]
 refine Dg.fin1 (k:=17) U ?_;intro z47 hp
 obtain⟨_,hz47⟩:=hp
 refine Aa (Af (Ab ?_));refine Aa (Ai (.tm U) (fun h50=>?_) (fun h50=>?_))
 · try simp at h50
   refine Af (Ab ?_);refine Ah ?_;refine Aa (Aq (O4.mk rfl ?_));refine Bl U U ?_;exact congrArg (Value.int .i64) ((hz47 h50).trans (V5 g a c y u m (r'+1)))
 try simp at h50
 refine Am (Af (An ?_));refine Aa (Ae (Ae (Bx 10 (DM [[],[0],[0,1],[0,1,2],[],[4],[0,1,2,3,4,5],[0,1,2,3,4,5,6],[0,1,2,3,4,5,6,7],[]]) (by kernel_rfl) (by kernel_rfl) (by kernel_rfl) ?_)));refine Az ?_;refine AB.s (fun _ hs=>(C1 U (.no U) (Ag hs U) (hs.tm U))) ?_;refine Bz Qo ?_;refine A5 Yo ?_;refine Bz Ll ?_;refine A5 ty3 ?_;refine AB.s (fun _ hs=>(by exact Ak U (.no U) (Ag hs U) (hs.tm U) (hs.tm U) ZG Df (fun _=>⟨by omega,(by exact Ao (P2 hu))⟩))) ?_;refine A5 Df ?_;refine AB.s (fun _ hs=>(by exact Di U (.no U) (Ag hs U) (hs.tm U) (by exact .t) ZB)) ?_;refine AB.s (fun _ hs=>Bh U (.no U) (Ag hs U) (.const U)) ?_;refine Bs U U ?_
 refine Aa (AW.block (Cp (fun (j:Nat) (N:Int)=>(j≤(CB g c u).length)∧N=cwT g a c y r' u m j) (fun (j:Nat) (N:Int)=>⟨_,[(61,(true,.a (.one (.t (.v (.int .i64 (j:Nat))))))),(7,(true,.a (.one (.t (.v (.int .i64 N)))))),(0,_),(3,_),(4,_),(59,_),(60,_)],[(888888,.mp b (knF g a c y))]⟩) (fun (j:Nat) (N:Int)=>(CB g c u).length-j) (0) (0) ⟨Nat.zero_le _,U⟩ Aw ?_))
 rintro j N ⟨hk,he⟩
 refine Af (AWl.lt ?_);refine Aa (Ae (Ai (.tm U) (fun h62=>?_) (fun h62=>?_)))
 · try simp at h62
   obtain⟨z,hz⟩:∃ ξ,(CB g c u)[j]?=some ξ:=⟨_,ZI (by omega)⟩
   have hza:=(ZJ.1 (ZK hz)).1
   have hzo:=DO hg hza
   have hlt:=JU ha hm hv.2 (k:=z.letter) ⟨hzo.1,by omega⟩
   have hcr:=Lo g a c y r' z.to (DX a m (AL g u) z.letter)
   have htr:=X4 g a c y r' u m j
   refine Am (Ae (AW.block (Af (Ac (by exact Ak U (.no U) U (.tm U) (.tm U) ZB D5 (fun _=>⟨by omega,(by exact Ao hz)⟩)) U ?_))));refine Aj D5 ?_;refine A6 (Bd 9 U U U Jk U U U) U ?_;refine A4 D5 ?_;refine Aa (Ad (Ab ?_));refine Ab ?_;refine Ab ?_;refine Aj Dt ?_;refine Bb D5 ?_;refine Ac (Bc (FnT.fr (IF g a ha hg y (Fa g c) b u hu m hm r' (by omega) z hza)) U (.no U) U (.cons (.tm U) U (.cons (.tm U) U (.cons (.tm U) U .nil)))) U ?_;refine Cj (Q6 (u:=888888) 7100 (ih r' (by omega) (by omega) z.to hzo.2.2 (DX a m (AL g u) z.letter) hlt) U U U U U (.cons (.tm U) U (.cons (.tm U) U .nil)) U U) U ?_;refine Ac (Dn U (.no U) U (.tm U) (.tm U) (fun _=>by omega)) U ?_;refine Ac (Sd U (.no U) U (.const U) (.tm U)) U ?_;refine Ah ?_;refine Aa (As (Ay [0,3,4,7,9,59,60,61] [888888,9]) ?_);refine Ad (A9 ?_);refine Ab ?_;refine Aa ?_
   repeat (with_reducible refine Av ?_)
   refine BV.next (j+1) (min 1000000 (N+cwC g a c y r' z.to (DX a m (AL g u) z.letter))) ⟨by omega,by rw [he,←Y8 hz]⟩ (by omega) (Au rfl ⟨rfl,rfl,rfl,rfl,rfl,rfl,rfl,Y⟩ ⟨(by rfl),Y⟩)
 try simp at h62
 refine Bf (Ae (AW.dagn 7 20 [[],[0],[4],[5],[0,1],[0,4],[0,5],[4,5],[0,1,2],[0,1,4],[0,1,5],[0,4,5],[0,1,2,3],[0,1,2,4],[0,1,2,5],[0,1,4,5],[0,1,2,3,4],[0,1,2,3,5],[0,1,2,4,5],[0,1,2,3,4,5],[0,1,2,3,4,5,6]] [(0,0,1),(0,4,2),(0,5,3),(1,1,4),(1,4,5),(2,0,5),(1,5,6),(3,0,6),(2,5,7),(3,4,7),(4,2,8),(4,4,9),(5,1,9),(4,5,10),(6,1,10),(5,5,11),(7,0,11),(6,4,11),(8,3,12),(8,4,13),(9,2,13),(8,5,14),(10,2,14),(9,5,15),(11,1,15),(10,4,15),(12,4,16),(13,3,16),(12,5,17),(14,3,17),(13,5,18),(15,2,18),(14,4,18),(16,5,19),(18,3,19),(17,4,19),(19,6,20)] (by kernel_rfl) (by kernel_rfl) (by kernel_rfl) ?_));apply Ar (i:=0)
 case ha|ho|hb=>rfl
 case hE=>
  intro w9;refine Ab ?_;exact Al [0,3,4,7,59,60,61,62,75] [888888]
 apply Ar (i:=4);rfl;rfl;rfl
 · intro w9;refine Aj Dt ?_;exact Al [0,3,4,7,59,60,61,62,79] [888888]
 apply Ar (i:=5);rfl;rfl;rfl
 · intro w9;refine Ab ?_;exact Al [0,3,4,7,59,60,61,62,80] [888888]
 apply Ar (i:=1);rfl;rfl;rfl
 · intro w9;refine Ac (C1 U (.no U) U (.tm U)) U ?_;exact Al [0,3,4,7,59,60,61,62,76] [888888]
 apply Ar (i:=4);rfl;rfl;rfl
 · intro w9;refine Aj Dt ?_;exact Al [0,3,4,7,59,60,61,62,75,79] [888888]
 apply Ap (i:=0);rfl;rfl;rfl
 · intro w9;refine Ab ?_;exact Aa Aw
 apply Ar (i:=5);rfl;rfl;rfl
 · intro w9;refine Ab ?_;exact Al [0,3,4,7,59,60,61,62,75,80] [888888]
 apply Ap (i:=0);rfl;rfl;rfl
 · intro w9;refine Ab ?_;exact Aa Aw
 apply Ar (i:=5);rfl;rfl;rfl
 · intro w9;refine Ab ?_;exact Al [0,3,4,7,59,60,61,62,79,80] [888888]
 apply Ap (i:=4);rfl;rfl;rfl
 · intro w9;refine Aj Dt ?_;exact Aa Aw
 apply Ar (i:=2);rfl;rfl;rfl
 · intro w9;refine A7 JM ?_;exact Al [0,3,4,7,59,60,61,62,77] [888888]
 apply Ar (i:=4);rfl;rfl;rfl
 · intro w9;refine Aj Dt ?_;exact Al [0,3,4,7,59,60,61,62,76,79] [888888]
 apply Ap (i:=1);rfl;rfl;rfl
 · intro w9;refine Ac (C1 U (.no U) U (.tm U)) U ?_;exact Aa Aw
 apply Ar (i:=5);rfl;rfl;rfl
 · intro w9;refine Ab ?_;exact Al [0,3,4,7,59,60,61,62,76,80] [888888]
 apply Ap (i:=1);rfl;rfl;rfl
 · intro w9;refine Ac (C1 U (.no U) U (.tm U)) U ?_;exact Aa Aw
 apply Ar (i:=5);rfl;rfl;rfl
 · intro w9;refine Ab ?_;exact Al [0,3,4,7,59,60,61,62,75,79,80] [888888]
 apply Ap (i:=0);rfl;rfl;rfl
 · intro w9;refine Ab ?_;exact Aa Aw
 apply Ap (i:=4);rfl;rfl;rfl
 · intro w9;refine Aj Dt ?_;exact Aa Aw
 apply Ar (i:=3);rfl;rfl;rfl
 · intro w9;refine Aj OQ ?_;exact Al [0,3,4,7,59,60,61,62,78] [888888]
 apply Ar (i:=4);rfl;rfl;rfl
 · intro w9;refine Aj Dt ?_;exact Al [0,3,4,7,59,60,61,62,77,79] [888888]
 apply Ap (i:=2);rfl;rfl;rfl
 · intro w9;refine A7 JM ?_;exact Aa Aw
 apply Ar (i:=5);rfl;rfl;rfl
 · intro w9;refine Ab ?_;exact Al [0,3,4,7,59,60,61,62,77,80] [888888]
 apply Ap (i:=2);rfl;rfl;rfl
 · intro w9;refine A7 JM ?_;exact Aa Aw
 apply Ar (i:=5);rfl;rfl;rfl
 · intro w9;refine Ab ?_;exact Al [0,3,4,7,59,60,61,62,76,79,80] [888888]
 apply Ap (i:=1);rfl;rfl;rfl
 · intro w9;refine Ac (C1 U (.no U) U (.tm U)) U ?_;exact Aa Aw
 apply Ap (i:=4);rfl;rfl;rfl
 · intro w9;refine Aj Dt ?_;exact Aa Aw
 apply Ar (i:=4);rfl;rfl;rfl
 · intro w9;refine Aj Dt ?_;exact Al [0,3,4,7,59,60,61,62,78,79] [888888]
 apply Ap (i:=3);rfl;rfl;rfl
 · intro w9;refine Aj OQ ?_;exact Aa Aw
 apply Ar (i:=5);rfl;rfl;rfl
 · intro w9;refine Ab ?_;exact Al [0,3,4,7,59,60,61,62,78,80] [888888]
 apply Ap (i:=3);rfl;rfl;rfl
 · intro w9;refine Aj OQ ?_;exact Aa Aw
 apply Ar (i:=5);rfl;rfl;rfl
 · intro w9;refine Ab ?_;exact Al [0,3,4,7,59,60,61,62,77,79,80] [888888]
 apply Ap (i:=2);rfl;rfl;rfl
 · intro w9;refine A7 JM ?_;exact Aa Aw
 apply Ap (i:=4);rfl;rfl;rfl
 · intro w9;refine Aj Dt ?_;exact Aa Aw
 apply Ar (i:=5);rfl;rfl;rfl
 · intro w9;refine Ab ?_;exact Al [0,3,4,7,59,60,61,62,78,79,80] [888888]
 apply Ap (i:=3);rfl;rfl;rfl
 · intro w9;refine Aj OQ ?_;exact Aa Aw
 apply Ap (i:=4);rfl;rfl;rfl
 · intro w9;refine Aj Dt ?_;exact Aa Aw
 apply Ar (i:=6);rfl;rfl;rfl
 · intro w9;refine AWl.chgb (Wu (u:=888888) XT U U U (.tm U) U U (.tm U) hwf (.tm U) (by rw [he,V5];exact TQ hm0 (by omega))) ?_;exact Al [0,3,4,7,59,60,61,62] [888888]
 refine Dag.fin (k:=20) U ?_;refine Aa (Af (Ab ?_));refine Ah ?_;refine Aa (Aq (O4.mk rfl ?_));refine Bl U U ?_
 rw [he];exact congrArg (Value.int .i64) (TQ hm0 (by omega))
theorem NU (g:AC) (a:AA) (ha:AJ a=true) (hg:AI g=true) (c y:Int) (b:Nat) (D:Nat) (hD:D≤1000) (u:Int) (hu:0≤u∧u<g.Values.length) (m:Nat) (hm:m<2^a.Accept.length) (h0:0<cwC g a c y D u m):FnK Z9 65 b (knF g a c y) [.one (.ad (VX g a y (Fa g c) b)),Vu u m D,.one (.v (.int .i64 0))] (.a (.one (.sl 2 ((gwS g a c y D u m).map BG)))):=by
 refine FnK.walk ZT rfl (by kernel_rfl) ZU rfl rfl fun w0=>?_
 have hP:=DC ha
 have hG:=CA hg
 refine Af (A6 (Yf 4 U U U (.tm U) U U U) U ?_);refine An ?_;refine Ch (i:=6) 20001 2 U U ?_;refine Aa (Af (A6 (C7 12 U U U ZC Ds U) U ?_));refine Ah ?_;refine Aa (Ae (AW.block ?_));refine AW.loop5 (fun (r:Nat) (u1:Int) (m1:Nat) (O:List DK) (N:Int)=>((r≤D∧O.length+r=D)∧(0≤u1∧u1<g.Values.length)∧m1<2^a.Accept.length∧0<cwC g a c y r u1 m1)∧N=0∧O++gwS g a c y r u1 m1=gwS g a c y D u m) (fun (r:Nat) (u1:Int) (m1:Nat) (O:List DK) (N:Int)=>⟨_,[(2,(true,.a (.one (.t (.v (.int .i64 N)))))),(7,(true,.a (.one (.rf 12)))),(0,_),(4,_),(6,_)],[(12,.row 2 (O.map BG)),(4,.box [.t (.v (.int .i64 u1)),.t (.v (.int .i64 (m1:Int))),.t (.v (.int .i64 (r:Int)))]),(888888,.mp b (knF g a c y))]⟩) (fun (r:Nat) (u1:Int) (m1:Nat) (O:List DK) (N:Int)=>r) (D) (u) (m) ([]) (0) ⟨⟨⟨Nat.le_refl _,by simp⟩,hu,hm,h0⟩,U,U⟩ Aw ?_
 rintro r u1 m1 O N ⟨hk,he⟩
 refine Ae (Af (Bq Qm ?_));refine Bb ty3 ?_;refine AWl.gc ?_;refine Aa (Ai (.tm U) (fun h15=>?_) (fun h15=>?_))
 · try simp at h15
   obtain⟨r',rfl⟩:∃ r',r=r'+1:=⟨r-1,by (first|omega|(simp at h15;omega))⟩
   have hv:=CH hg hk.2.1
   obtain⟨z0,hz0⟩:=LC hk.2.2.2
   have hal:=JS hg c u1
   refine Am (AW.block (Ae (Bx 10 (DM [[],[0],[0,1],[0,1,2],[],[4],[0,1,2,3,4,5],[0,1,2,3,4,5,6],[0,1,2,3,4,5,6,7],[]]) (by kernel_rfl) (by kernel_rfl) (by kernel_rfl) ?_)));refine Az ?_;refine AB.s (fun _ hs=>(C1 U (.no U) (Ag hs U) (hs.tm U))) ?_;refine Bz Qo ?_;refine A5 Yo ?_;refine AB.s (fun _ hs=>(by exact Bj U (.no U) (Ag hs U) (hs.tm U) Ll)) ?_;refine AB.s (fun _ hs=>(by exact Be U (.no U) (Ag hs U) (hs.tm U) (hs.res _ _ U) ty3 U U)) ?_;refine AB.s (fun _ hs=>(by exact Ak U (.no U) (Ag hs U) (hs.tm U) (hs.tm U) ZG Df (fun _=>⟨by omega,(by exact Ao (P2 hk.2.1))⟩))) ?_;refine A5 Df ?_;refine AB.s (fun _ hs=>(by exact Di U (.no U) (Ag hs U) (hs.tm U) (by exact .t) ZB)) ?_;refine AB.s (fun _ hs=>Bh U (.no U) (Ag hs U) (.const U)) ?_;refine Bs U U ?_;refine Aa (AW.block ?_)
   refine Cp (fun (j:Nat) (M:Int)=>(j≤(CB g c u1).length∧∀ x∈(CB g c u1).take j,¬ 0<cwC g a c y r' x.to (DX a m1 (AL g u1) x.letter))∧M=0) (fun (j:Nat) (M:Int)=>⟨_,[(25,(true,.a (.one (.t (.v (.int .i64 (j:Nat))))))),(2,(true,.a (.one (.t (.v (.int .i64 M)))))),(7,(true,.a (.one (.rf 12)))),(0,_),(4,_),(6,_),(23,_),(24,_)],[(12,.row 2 (O.map BG)),(4,.box [.t (.v (.int .i64 u1)),.t (.v (.int .i64 (m1:Int))),.t (.v (.int .i64 ((r'+1:Nat):Int)))]),(888888,.mp b (knF g a c y))]⟩) (fun (j:Nat) (M:Int)=>(CB g c u1).length-j) (0) (N) ⟨⟨Nat.zero_le _,by simp⟩,he.1⟩ Aw ?_
   rintro j M ⟨hk1,he1⟩
   refine Af (AWl.lt ?_);refine Aa (Ae (Ai (.tm U) (fun h26=>?_) (fun h26=>?_)))
   · try simp at h26
     obtain⟨z,hz⟩:∃ ξ,(CB g c u1)[j]?=some ξ:=⟨_,ZI (by omega)⟩
     have hza:=(ZJ.1 (ZK hz)).1
     have hzo:=DO hg hza
     have hlt:=JU ha hk.2.2.1 hv.2 (k:=z.letter) ⟨hzo.1,by omega⟩
     have hcr:=Lo g a c y r' z.to (DX a m1 (AL g u1) z.letter)
     refine Am (Ae (AW.block (Af (Ac (by exact Ak U (.no U) U (.tm U) (.tm U) ZB D5 (fun _=>⟨by omega,(by exact Ao hz)⟩)) U ?_))));refine Aj D5 ?_;refine A6 (Bd 9 U U U Jk U U U) U ?_;refine A4 D5 ?_;refine Aa (Af (Ab ?_));refine Bb Dt ?_;refine Bb D5 ?_;refine Ac (Bc (FnT.fr (IF g a ha hg y (Fa g c) b u1 hk.2.1 m1 hk.2.2.1 r' (by omega) z hza)) U (.no U) U (.cons (.tm U) U (.cons (.tm U) U (.cons (.tm U) U .nil)))) U ?_;refine A6 (Bd 10 U U U Ry U U U) U ?_;refine A4 Dt ?_;refine Aa (Ae (As (Ay [0,2,4,6,7,9,10,23,24,25] [12,4,888888,9,10]) ?_));refine Ad (Ab ?_);refine Bb Dt ?_;refine Cj (Q6 (u:=888888) 3500 (LK g a ha hg c y b r' (by omega) z.to hzo.2.2 (DX a m1 (AL g u1) z.letter) hlt) U U U U U (.cons (.tm U) U (.cons (.tm U) U .nil)) U U) U ?_;refine Ah ?_;refine Aa (Ae (Af (Ab ?_)));refine Ab ?_;refine AWl.lt ?_
     refine Aa (Ai (.tm U) (fun h38=>?_) (fun h38=>?_))
     · try simp at h38
       have hzp:0<cwC g a c y r' z.to (DX a m1 (AL g u1) z.letter):=by (first|omega|(simp at h38;omega))
       have hpk:=WX hz hzp hk1.2
       refine Ae (As (Ay [0,2,4,6,7,9,10,11,23,24,25] [12,4,888888,9,10]) ?_);refine Ad (Ab ?_);refine Bq Xy ?_;refine Bb Ds ?_;refine Ac (Cf (xs:=[.tmp 41]) (rows:=[BG z.step]) U U U (.cons (.tm U) U U .nil) ZC HE U U (U)) U ?_;refine Bt (B8 U U U (.tm U) U (.tm U) (by exact .t) (by rfl) ZC HE U (by (simp [AH];omega)) (by (unfold maxLen;simp [AH];omega))) U ?_;refine Bv (Ay [0,2,4,6,7,9,10,11,23,24,25,43] [12,4,888888,9,10]) ?_;refine Ah ?_;refine Aa (Af (Bb Dt ?_));refine A4 Dt ?_;refine Aa (Bf ?_)
       repeat (with_reducible refine Av ?_)
       repeat (with_reducible first|refine Av ?_|refine PA.ex ?_|refine I8.here ?_|refine I8.past (by decide) ?_|refine BF.ex ?_|refine BV.ex ?_|refine Ef.ex ?_|refine Jz.ex ?_|refine Jy.ex ?_)
       refine Jy.next (r') (z.to) (DX a m1 (AL g u1) z.letter) (O++[z.step]) (M) ⟨⟨⟨by omega,by simp;omega⟩,hzo.2.2,hlt,hzp⟩,he1,by rw [List.append_assoc,List.singleton_append,←K7 hpk];exact he.2⟩ (by omega) (Au rfl ⟨rfl,rfl,rfl,rfl,rfl,Y⟩ ⟨(by (refine congrArg (fun r=>some (R.row _ r)) ?_;simp [AH,List.map_set,AQ,Ey,DV,BC,AS,BH,AP,AG,BG,BO,CF,DE,BW,BA,AE,AK,BJ,AT,Em,DD,AZ,BN])),(by rfl),(by rfl),Y⟩)
     try simp at h38
     have hzn:cwC g a c y r' z.to (DX a m1 (AL g u1) z.letter)=0:=by (first|omega|(simp at h38;omega))
     have hnx:∀ x∈(CB g c u1).take (j+1),¬ 0<cwC g a c y r' x.to (DX a m1 (AL g u1) x.letter):=fun x hx=>by (rw [CO hz,List.mem_append,List.mem_singleton] at hx;rcases hx with hx|rfl;(exact hk1.2 x hx);(omega))
     refine Am (As (Ay [0,2,4,6,7,9,10,11,23,24,25] [12,4,888888,9,10]) ?_);refine Ad (Ab ?_);refine Ab ?_;refine Ac (D8 U (.no U) U (.tm U) (.tm U) (fun _=>by omega)) U ?_;refine Ah ?_;refine Aa (Ad (A9 ?_));refine Ab ?_;refine Aa ?_
     repeat (with_reducible refine Av ?_)
     refine BV.next (j+1) (M-cwC g a c y r' z.to (DX a m1 (AL g u1) z.letter)) ⟨⟨by omega,hnx⟩,by omega⟩ (by omega) (Au rfl ⟨rfl,rfl,rfl,rfl,rfl,rfl,rfl,rfl,Y⟩ ⟨(by rfl),(by rfl),(by rfl),Y⟩)
   exact absurd h26 (by intro hf;(have hjl:(CB g c u1).length≤j:=by (first|omega|(simp at hf;omega)));exact hk1.2 z0 (by rw [List.take_of_length_le hjl];exact (ND hz0).1) (ND hz0).2)
 try simp at h15
 refine Bf (Af (Ab ?_));refine Ah ?_;refine Aa (Aq (O4.mk rfl ?_));refine Res.one U (.tmp U .nil) U ?_
 (have hr0:r=0:=by (first|omega|(simp at h15;omega)));subst hr0;(have he2:=he.2);rw [gwS,List.append_nil] at he2;rw [he2];rfl
end Go.Q
