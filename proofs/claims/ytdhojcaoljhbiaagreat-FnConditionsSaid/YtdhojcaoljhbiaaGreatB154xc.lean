import Derived.Test.YtdhojcaoljhbiaaGreatB143xc
import Derived.Test.YtdhojcaoljhbiaaGreatKnnxc
import Derived.Test.YtdhojcaoljhbiaaGreatDraw5xc
import Derived.Test.YtdhojcaoljhbiaaGreatB152xc
import Derived.Test.YtdhojcaoljhbiaaGreatB71xc
import Derived.Test.YtdhojcaoljhbiaaGreatB07xc
set_option linter.unusedVariables false
set_option linter.unusedSimpArgs false
set_option maxHeartbeats 1000000
set_option maxRecDepth 100000
open Go.Proofs.Tryz renaming underlying92->Z9,prog->ZA,underlying52->ZF,func64->ZT,ntmps64->ZU,func27->ZV,ntmps27->ZW,underlying40->ZX,func67->ZY,ntmps67->ZZ,func28->Aaa,ntmps28->Aab
open Bool renaming and_eq_true->ZB,and_true->ZJ
open Int renaming toNat_of_nonneg->ZC,toNat_natCast->ZI,natCast_add->ZP,natCast_mul->ZQ
open List renaming mem_singleton->ZD,mem_filter->ZE,mem_flatMap->ZG,getElem?_eq_some_iff->ZH,mem_of_getElem?->ZL,getElem?_eq_getElem->ZN,mem_map->ZO,length_cons->ZS
open Nat renaming le_refl->ZK,pow_lt_pow_right->ZM,le_trans->ZR
namespace Go.Q
open Go.D Go.Proofs.YtdhojcaoljhbiaaGreat
def Hb (g:AC) (a:AA) (c x y:Int):Bool:=GB g a x y&&inB c 0 4
def DT (g:AC) (a:AA) (c x y:Int):EV×Bool:=if Hb g a c x y=true∧0≤Ed g a c x y then (⟨x,gwS g a c y (Ed g a c x y).toNat x (2^a.Start.toNat)⟩,true) else (⟨0,[]⟩,false)
theorem QD {g:AC} {a:AA} {c x y:Int} (h:Hb g a c x y=true):AI g=true∧AJ a=true∧(0≤x∧x<g.Values.length)∧0≤y∧y<g.Values.length:=by
 unfold Hb GB at h
 simp only [ZB] at h
 exact⟨(Ik h.1.1).1,(Ik h.1.1).2.1,(Ik h.1.1).2.2,(Ik h.1.2).2.2⟩
theorem W9 {g:AC} {a:AA} {c x:Int} {L:List TNd} (hL:L=E8 g a c x) {k:Nat} {d:TNd} (hd:L[k]?=some d) (h0:0≤d.from_):d.from_.toNat<k∧upS L k k=upS L d.from_.toNat d.from_.toNat++[d.step]:=by
 subst hL
 unfold E8 at hd ⊢
 have hkl:=(ZH.1 hd).1
 rcases Ni hd with ⟨_,h⟩|⟨h1,_,h2⟩
 · omega
 obtain⟨k,rfl⟩:∃ k',k=k'+1:=⟨k-1,by omega⟩
 exact⟨h2,by rw [KL hd h0,QE d.from_.toNat (f':=d.from_.toNat) (by omega) (by omega) (ZK _)]⟩
theorem Ym {g:AC} {a:AA} (ha:AJ a=true) (hg:AI g=true) {c x y:Int} (hx:0≤x∧x<g.Values.length) (hy:0≤y∧y<g.Values.length) (hok:Hb g a c x y=true) {k:Nat} {d:TNd} (hd:(E8 g a c x)[k]?=some d) (hb:d.node=y∧Iu g a d=true) (hn:∀ i di,i<k→(E8 g a c x)[i]?=some di→¬ (di.node=y∧Iu g a di=true)):DT g a c x y=(⟨x,upS (E8 g a c x) k k⟩,true):=by
 rcases Int.lt_or_le (Ed g a c x y) 0 with h|h
 · exact absurd hb (UQ ha hg hx hy h d (ZL hd))
 obtain⟨k',d',h1,h2,h3,h4⟩:=QC ha hg hx hy h
 have e:k'=k:=by
  rcases Nat.lt_trichotomy k' k with hl|hl|hl
  · exact absurd h2 (hn k' d' hl h1)
  · exact hl
  exact absurd hb (h3 k d hl hd)
 subst e
 unfold DT
 rw [if_pos ⟨hok,h⟩,←h4]
theorem W7 {g:AC} {a:AA} (ha:AJ a=true) (hg:AI g=true) {c x y:Int} (hx:0≤x∧x<g.Values.length) (hy:0≤y∧y<g.Values.length) (hn:∀ (i:Nat) di,(E8 g a c x)[i]?=some di→¬ (di.node=y∧Iu g a di=true)):DT g a c x y=(⟨0,[]⟩,false):=by
 unfold DT
 rw [if_neg]
 rintro⟨_,h⟩
 obtain⟨k',d',h1,h2,_⟩:=QC ha hg hx hy h
 exact hn k' d' h1 h2
open Go.RowKit Go.WideMaps Go.ChangeMaps
theorem NT (g:AC) (a:AA) (hg:AI g=true) (y:Int) (f:Int→Int→Int→Int):W4 ZA 64 (AG g) (AE a) (.int .i64 y) 1 ((Ol g).map Oi) f:=by
 refine W4.walk ZT rfl (by kernel_rfl) ZU rfl rfl fun g0 g1 a0 a1 a2 K hK w0=>?_
 refine Af (Ac (Bg U U U (.tm U) (ts:=_) (by rfl)) U ?_);refine Ac (Bg U U U (.tm U) (ts:=_) (by rfl)) U ?_;refine An ?_;refine Aa (Ae (As (Ay [0,1,2,3,4,6] [999999]) ?_));apply Cr (N:=6) (k:=3) (Hs:=[0,1,2,3]) (ms:=[[],[4],[5],[4,5]]) (es:=[(0,4,1),(0,5,2),(1,5,3),(2,4,3)]) (σ1:=_) (SM:=⟨_,[(0,_),(1,_),(2,_),(3,_),(4,_),(6,_),(7,_),(8,_),(9,_),(10,_)],[(999999,_)]⟩)
 case hm=>kernel_rfl
 case hB=>kernel_rfl
 case hP=>kernel_rfl
 case hL=>kernel_rfl
 case hN=>rfl
 case hpre=>
  apply Ax (P:=ZA) 0 rfl ((Br rfl (.no rfl) rfl (.tm rfl) B7 rfl rfl)) (by exact BM.ld (x:=.tmp 3) (.tm rfl) rfl rfl) rfl rfl rfl;apply Ax (P:=ZA) 1 rfl ((by exact Br rfl (.no rfl) rfl (.tm rfl) B6 rfl rfl)) (by exact BM.ld (x:=.tmp 4) (.tm rfl) rfl rfl) rfl rfl rfl;apply Ax (P:=ZA) 2 rfl (Bh rfl (.no rfl) rfl (.tm rfl)) (by exact BM.slot (t:=2) rfl) rfl rfl rfl;apply Ax (P:=ZA) 3 rfl ((by exact Br rfl (.no rfl) rfl (.tm rfl) B7 rfl rfl)) (by exact BM.ld (x:=.tmp 3) (.tm rfl) rfl rfl) rfl rfl rfl;exact EC.nil
 case hS=>exact Ba
 case hH=>
  refine⟨⟨_,_,_,rfl,rfl,rfl,fun σ' hs=>(by exact Br rfl (.no rfl) (Ag hs rfl) (.tm (hs.slots _ _ rfl)) B7 rfl rfl)⟩,?_⟩
  refine⟨⟨_,_,_,rfl,rfl,rfl,fun σ' hs=>(by exact Br rfl (.no rfl) (Ag hs rfl) (.tm (hs.slots _ _ rfl)) B6 rfl rfl)⟩,?_⟩
  refine AX.mv ?_
  refine⟨⟨_,_,_,rfl,rfl,rfl,fun σ' hs=>(by exact Br rfl (.no rfl) (Ag hs rfl) (.tm (hs.slots _ _ rfl)) B7 rfl rfl)⟩,?_⟩
  trivial
 apply Dh.new0 (i:=4);rfl;rfl;rfl
 · intro w9 _;refine Cj (Sf 1100 (FnT.tk (NX g hg) hK) U U U U (.cons (.tm U) U .nil) U U) U ?_;exact Al [0,1,2,3,4,6,7,8,9,10,11] [999999,1100]
 intros;exact Ba
 apply Dh.drw0 (i:=5)
 case ha=>rfl
 case ho=>rfl
 case hE=>
  intro  hp
  obtain _:=hp
  exact PC 888888 (f) rfl rfl rfl rfl
 case hb=>rfl
 case hL=>
  intro  z12 hp hy;exact CV.eq (Ay [0,1,2,3,4,6,7,8,9,10,12] [999999,888888]) U
 case hS=>intros;exact Ba
 apply Dh.drw0 (i:=5)
 case ha=>rfl
 case ho=>rfl
 case hE=>
  intro  hp
  obtain _:=hp
  exact PC 888888 (f) rfl rfl rfl rfl
 case hb=>rfl
 case hL=>
  intro  z12 hp hy;exact CV.eq (Ay [0,1,2,3,4,6,7,8,9,10,11,12] [999999,1100,888888]) U
 case hS=>intros;exact Ba
 apply Dh.old1 (i:=4);rfl;rfl;rfl
 · intro w9 z12 hp
   obtain⟨_,hz12⟩:=hp
   refine Cj (Sf 1100 (FnT.tk (NX g hg) hK) U U U U (.cons (.tm U) U .nil) U U) U ?_;exact Aa Aw
 refine Dh.fin1 (k:=3) rfl ?_;intro z12 hp
 obtain⟨_,hz12⟩:=hp
 refine Ac (Bm (ps:=[(0,.tmp 7),(1,.tmp 8),(2,.tmp 9),(3,.tmp 11),(4,.tmp 12)]) U U U Za U U YW (.cons (.tm U) U U Xv (.cons (.tm U) U U Xu (.cons (.tm U) U U Xt (.cons (.tm U) U U Xs (.cons (.tm U) U U Xr .nil))))) U) U ?_;refine A6 (Yf 14 U U U (.tm U) U U U) U ?_;refine Ah ?_;refine Aa (Aq ?_)
 show Uh _ _ _ _ _ _
 exact⟨_,_,_,_,rfl,rfl,rfl,rfl,rfl⟩
theorem Ii (g:AC) (a:AA) (c x y:Int):FnT ZA 27 [.agg (AG g),.agg (AE a),.one (.v (.int .i64 c)),.one (.v (.int .i64 x)),.one (.v (.int .i64 y))] (.tup [.agg (BO (DT g a c x y).1),.one (.v (.bool (DT g a c x y).2))]):=by
 refine A8 ZV U (by kernel_rfl) ZW U fun hlen w0=>?_
 try simp [AP,AG,BG,BO,AE] at hlen
 skip
 refine Af (Ac (Bg U U U (.tm U) (ts:=_) (by rfl)) U ?_);refine Ac (Bg U U U (.tm U) (ts:=_) (by rfl)) U ?_;refine A6 (Bd 10 U U U Ha U U U) U ?_;refine Cz (b:=10) 20001 2 1 U U U ?_;refine An ?_;refine Aa (Ae (Af (Aj B7 ?_)));refine Aj B6 ?_;refine Ab ?_;refine Ab ?_;refine Ac (Cf (xs:=[.tmp 17,.tmp 18]) (rows:=[AQ x,AQ y]) U U U (.cons (.tm U) U U (.cons (.tm U) U U .nil)) ZX in3 U U (U)) U ?_;refine By (NW g a [x,y]) ?_;refine Cy ?_;refine Ab ?_;refine AWl.mw ?_;refine Ac (Cw U (by exact .not1 U U U U) U (.cons (.tmp U (by exact id)) U (.cons (.const U) U (.cons (.const U) U .nil))) fun hq=>FnT.fr (CR c 0 4)) U ?_;refine Ac (Du U (by exact .not1 U U U U) U (.tmp U (by exact id))) U ?_;refine Co ?_;refine Aa (Ai (.tm U) (fun h26=>?_) (fun h26=>?_))
 · try simp at h26
   have hno:Hb g a c x y=false:=by (unfold Hb;rw [←Me];revert h26;cases II g a [x,y]<;>cases inB c 0 4<;>simp)
   refine Ae (As (Ay [0,1,2,3,4,5,6,10,11] [10,20001]) ?_);refine Ad (Ac (Bm (ps:=[]) U U U Ha U U Um .nil U) U ?_);refine Cg (i:=27) 20002 2 1 U U U ?_;refine A4 D6 ?_;refine Bv (Ay [0,1,2,3,4,5,6,10,11] [10,20001,20002]) ?_;refine An ?_;refine Aa (Aq (Cd U (.cell U U D6 U U (.tmp U .nil)) U ?_ (by simp)))
   unfold DT;rw [if_neg (by rw [hno];simp)];rfl
 try simp at h26
 have hok:Hb g a c x y=true:=by (unfold Hb;rw [←Me];revert h26;cases II g a [x,y]<;>cases inB c 0 4<;>simp)
 obtain⟨hg,ha,hx,hy⟩:=QD hok
 have hA:=AR ha
 have hdl:=Og ha hg (c:=c) hx hy
 have hcn:=LP ha hg (c:=c) hx hy
 have hsm:2^a.Start.toNat<2^a.Accept.length:=ZM (by omega) (by omega)
 refine Am (Ae (As (Ay [0,1,2,3,4,5,6,10,11] [10,20001]) ?_));refine Ad (Aj B7 ?_);refine Ab ?_;refine By (IG g hg c) ?_;refine Ah ?_;refine Aa (Af (Aj B7 ?_));refine Aj B6 ?_;refine Ab ?_;refine Ab ?_;refine Ab ?_;refine By (Hi g a ha hg c x y hx hy) ?_;refine Ah ?_;refine Aa (Ae (Ae (As (Ay [0,1,2,3,4,5,6,10,11,12,13] [10,20001]) ?_)));refine Ad (Ab ?_);refine D7 ?_;refine Aa (Ai (.tm U) (fun h38=>?_) (fun h38=>?_))
 · try simp at h38
   have hd:Ed g a c x y<0:=h38
   refine Af (Ac (Bm (ps:=[]) U U U Ha U U Um .nil U) U ?_);refine Cg (i:=39) 20003 2 1 U U U ?_;refine A4 D6 ?_;refine Bv (Ay [0,1,2,3,4,5,6,10,11,12,13,38] [10,20001,20003]) ?_;refine An ?_;refine Aa (Aq (Cd U (.cell U U D6 U U (.tmp U .nil)) U ?_ (by simp)))
   unfold DT;rw [if_neg (by omega)];rfl
 try simp at h38
 have hd:0≤Ed g a c x y:=by (unfold Ed;omega)
 have hdn:atI (Fv g a c y (AL g y)) (x*(a.Accept.length:Int)+a.Start)=(((Ed g a c x y).toNat:Nat):Int):=by (rw [ZC hd];rfl)
 refine Am (Af (Aj B7 ?_));refine Aj B6 ?_;refine Ab ?_;refine Bn (W0 4300 888888 (knF g a c y) (NT g a hg y (knF g a c y)) U U U (.tm U) (.tm U) (.tm U) U U U ⟨by decide,by decide⟩) ?_
 rintro _ ⟨mb43,rfl⟩
 refine Ah ?_;refine Aa (Ae (As (Ay [0,1,2,3,4,5,6,10,11,12,13,14] [10,20001,888888,4301,4300]) ?_));refine Ad (Ab ?_);refine Ab ?_;refine Ac (Cx U (.no U) U (.tm U)) U ?_;refine Bq Qo ?_;refine A4 Yo ?_;refine Aa (Ae (As (Le.frz 4300 14 (xs:=VX g a y (Fa g c) mb43) U U U) ?_));refine Ad (Ab ?_);refine Ab ?_;refine Ab ?_;refine Ab ?_;refine Ab ?_;refine By (LJ g a ha y (Fa g c) mb43 x _) ?_;refine Cj (Q6 (u:=888888) 5400 ((by rw [hdn];exact NU g a ha hg c y mb43 (Ed g a c x y).toNat (by omega) x hx (2^a.Start.toNat) hsm (hcn.1 hd))) U U U U U (.cons (.tm U) U (.cons (.tm U) U (.cons (.const U) U .nil))) U U) U ?_;refine Ac (Bm (ps:=[(0,.tmp 48),(1,.tmp 54)]) U U U Ha U U Um (.cons (.tm U) U U Y2 (.cons (.tm U) U U Y1 .nil)) U) U ?_;refine A4 D6 ?_
 refine Bv (Ay [0,1,2,3,4,5,6,10,11,12,13,14] [10,20001,888888,4301,4300,5400]) ?_;refine An ?_;refine Aa (Aq (Cd U (.cell U U D6 U U (.tmp U .nil)) U ?_ (by simp)))
 unfold DT;rw [if_pos ⟨hok,hd⟩];rfl
theorem QR (g:AC) (a:AA) (c x:Int) (L:List TNd) (hL:L=E8 g a c x) (hl:L.length≤20480) (K:Nat) (hK:K<L.length):FnT ZA 67 [.one (.sl 5 (L.map cNd)),.one (.v (.int .i64 (K:Int)))] (.a (.agg (BO ⟨x,upS L K K⟩))):=by
 refine A8 ZY U (by kernel_rfl) ZZ U fun hlen w0=>?_
 try simp [AP,AG,BG,BO,AE] at hlen
 have h00:L[0]?=some (IS a x):=by (rw [hL];exact GR g a c x _)
 refine Af (A6 (Bd 4 U U U Ha U U U) U ?_);refine Cz (b:=4) 20001 2 1 U U U ?_;refine Aa (Af (Ac (Bm (ps:=[]) U U U Ha U U Um .nil U) U ?_));refine Cg (i:=6) 20002 2 1 U U U ?_;refine A6 (Bd 5 U U U Ha U U U) U ?_;refine Cz (b:=5) 20003 2 1 U U U ?_;refine A4 D6 ?_;refine Aa (Ae (AW.block (Cp (fun (κ:Int) (W:List DK)=>((0≤κ∧κ.toNat<L.length)∧W.length+κ.toNat≤K)∧upS L κ.toNat κ.toNat++W=upS L K K) (fun (κ:Int) (W:List DK)=>⟨_,[(1,(true,.a (.one (.t (.v (.int .i64 κ)))))),(0,_),(4,_),(5,_)],[(4,.box [.t (.v (.int .i64 0)),.rf 20001]),(20001,.row 2 []),(5,.box [.t (.v (.int .i64 0)),.rf 20002]),(20002,.row 2 (W.map BG))]⟩) (fun (κ:Int) (W:List DK)=>κ.toNat) ((K:Int)) ([]) ⟨⟨⟨by omega,by simpa using hK⟩,by simp⟩,(by simp)⟩ Aw ?_)))
 rintro κ W ⟨hk,he⟩
 obtain⟨d,hd⟩:∃ ξ,L[κ.toNat]?=some ξ:=⟨_,ZN hk.1.2⟩
 refine Ae (Af (Ab ?_));refine AWl.gd ?_;refine Ab ?_;refine Cm ?_;refine Cm ?_;refine Ac (by exact Ak U (by exact .yes1 U U U U) U (.tmp U (by exact id)) (.tmp U (by exact id)) Z9 IK (fun hq=>by (try simp at hq);exact⟨by omega,(by exact Ao hd)⟩)) U ?_;refine Ac (Bu U (by exact .yes1 U U U U) U (.tmp U (by exact id)) VL) U ?_;refine Dy ty3 ?_;refine Ac (O0 U (by exact .yes1 U U U U) U (.tmp U (by exact id)) (.const U)) U ?_;refine Cn ?_;refine Aa (Ai (.tm U) (fun h16=>?_) (fun h16=>?_))
 · try simp at h16
   have hf0:0≤d.from_:=by (first|omega|(simp at h16;omega))
   have hup:=W9 hL hd hf0
   refine Am (AW.block (Ae (As (Ay [0,1,4,5] [4,20001,5,20002]) ?_)));refine AW.dagn 11 26 [[],[0],[1],[6],[0,1],[0,6],[1,6],[6,7],[0,1,2],[0,1,6],[0,6,7],[1,6,7],[0,1,2,3],[0,1,2,6],[0,1,6,7],[0,1,2,3,4],[0,1,2,3,6],[0,1,2,6,7],[0,1,2,3,4,5],[0,1,2,3,4,6],[0,1,2,3,6,7],[0,1,2,3,4,5,6],[0,1,2,3,4,6,7],[0,1,2,3,4,5,6,7],[0,1,2,3,4,5,6,7,8],[0,1,2,3,4,5,6,7,8,9],[0,1,2,3,4,5,6,7,8,9,10]] [(0,0,1),(0,1,2),(0,6,3),(1,1,4),(2,0,4),(1,6,5),(3,0,5),(2,6,6),(3,1,6),(3,7,7),(4,2,8),(4,6,9),(6,0,9),(5,1,9),(5,7,10),(7,0,10),(6,7,11),(7,1,11),(8,3,12),(8,6,13),(9,2,13),(9,7,14),(11,0,14),(10,1,14),(12,4,15),(12,6,16),(13,3,16),(13,7,17),(14,2,17),(15,5,18),(15,6,19),(16,4,19),(16,7,20),(17,3,20),(18,6,21),(19,5,21),(19,7,22),(20,4,22),(21,7,23),(22,5,23),(23,8,24),(24,9,25),(25,10,26)] (by kernel_rfl) (by kernel_rfl) (by kernel_rfl) ?_;apply Ar (i:=0)
   case ha|ho|hb=>rfl
   case hE=>
    intro w9;refine Ab ?_;exact Al [0,1,4,5,17] [4,20001,5,20002]
   apply Ar (i:=1);rfl;rfl;rfl
   · intro w9;refine Ab ?_;exact Al [0,1,4,5,18] [4,20001,5,20002]
   apply Ar (i:=6);rfl;rfl;rfl
   · intro w9;refine Bq C8 ?_;exact Al [0,1,4,5,23] [4,20001,5,20002]
   apply Ar (i:=1);rfl;rfl;rfl
   · intro w9;refine Ab ?_;exact Al [0,1,4,5,17,18] [4,20001,5,20002]
   apply Ap (i:=0);rfl;rfl;rfl
   · intro w9;refine Ab ?_;exact Aa Aw
   apply Ar (i:=6);rfl;rfl;rfl
   · intro w9;refine Bq C8 ?_;exact Al [0,1,4,5,17,23] [4,20001,5,20002]
   apply Ap (i:=0);rfl;rfl;rfl
   · intro w9;refine Ab ?_;exact Aa Aw
   apply Ar (i:=6);rfl;rfl;rfl
   · intro w9;refine Bq C8 ?_;exact Al [0,1,4,5,18,23] [4,20001,5,20002]
   apply Ap (i:=1);rfl;rfl;rfl
   · intro w9;refine Ab ?_;exact Aa Aw
   apply Ar (i:=7);rfl;rfl;rfl
   · intro w9;refine Bb FT ?_;exact Al [0,1,4,5,24] [4,20001,5,20002]
   apply Ar (i:=2);rfl;rfl;rfl
   · intro w9;refine Ac (Ak U (.no U) U (.tm U) (.tm U) Z9 IK (fun _=>⟨by omega,(by exact Ao hd)⟩)) U ?_;exact Al [0,1,4,5,19] [4,20001,5,20002]
   apply Ar (i:=6);rfl;rfl;rfl
   · intro w9;refine Bq C8 ?_;exact Al [0,1,4,5,17,18,23] [4,20001,5,20002]
   apply Ap (i:=0);rfl;rfl;rfl
   · intro w9;refine Ab ?_;exact Aa Aw
   apply Ap (i:=1);rfl;rfl;rfl
   · intro w9;refine Ab ?_;exact Aa Aw
   apply Ar (i:=7);rfl;rfl;rfl
   · intro w9;refine Bb FT ?_;exact Al [0,1,4,5,17,24] [4,20001,5,20002]
   apply Ap (i:=0);rfl;rfl;rfl
   · intro w9;refine Ab ?_;exact Aa Aw
   apply Ar (i:=7);rfl;rfl;rfl
   · intro w9;refine Bb FT ?_;exact Al [0,1,4,5,18,24] [4,20001,5,20002]
   apply Ap (i:=1);rfl;rfl;rfl
   · intro w9;refine Ab ?_;exact Aa Aw
   apply Ar (i:=3);rfl;rfl;rfl
   · intro w9;refine A7 SU ?_;exact Al [0,1,4,5,20] [4,20001,5,20002]
   apply Ar (i:=6);rfl;rfl;rfl
   · intro w9;refine Bq C8 ?_;exact Al [0,1,4,5,19,23] [4,20001,5,20002]
   apply Ap (i:=2);rfl;rfl;rfl
   · intro w9;refine Ac (Ak U (.no U) U (.tm U) (.tm U) Z9 IK (fun _=>⟨by omega,(by exact Ao hd)⟩)) U ?_;exact Aa Aw
   apply Ar (i:=7);rfl;rfl;rfl
   · intro w9;refine Bb FT ?_;exact Al [0,1,4,5,17,18,24] [4,20001,5,20002]
   apply Ap (i:=0);rfl;rfl;rfl
   · intro w9;refine Ab ?_;exact Aa Aw
   apply Ap (i:=1);rfl;rfl;rfl
   · intro w9;refine Ab ?_;exact Aa Aw
   apply Ar (i:=4);rfl;rfl;rfl
   · intro w9;refine Aj Ds ?_;exact Al [0,1,4,5,21] [4,20001,5,20002]
   apply Ar (i:=6);rfl;rfl;rfl
   · intro w9;refine Bq C8 ?_;exact Al [0,1,4,5,20,23] [4,20001,5,20002]
   apply Ap (i:=3);rfl;rfl;rfl
   · intro w9;refine A7 SU ?_;exact Aa Aw
   apply Ar (i:=7);rfl;rfl;rfl
   · intro w9;refine Bb FT ?_;exact Al [0,1,4,5,19,24] [4,20001,5,20002]
   apply Ap (i:=2);rfl;rfl;rfl
   · intro w9;refine Ac (Ak U (.no U) U (.tm U) (.tm U) Z9 IK (fun _=>⟨by omega,(by exact Ao hd)⟩)) U ?_;exact Aa Aw
   apply Ar (i:=5);rfl;rfl;rfl
   · intro w9;refine Bp (Ce (xs:=[.tmp 21]) 22 U U U (.cons (.tm U) U U .nil) ZF HE U U U U) U ?_;exact Al [0,1,4,5,22] [4,20001,5,20002,22]
   apply Ar (i:=6);rfl;rfl;rfl
   · intro w9;refine Bq C8 ?_;exact Al [0,1,4,5,21,23] [4,20001,5,20002]
   apply Ap (i:=4);rfl;rfl;rfl
   · intro w9;refine Aj Ds ?_;exact Aa Aw
   apply Ar (i:=7);rfl;rfl;rfl
   · intro w9;refine Bb FT ?_;exact Al [0,1,4,5,20,24] [4,20001,5,20002]
   apply Ap (i:=3);rfl;rfl;rfl
   · intro w9;refine A7 SU ?_;exact Aa Aw
   apply Ar (i:=6);rfl;rfl;rfl
   · intro w9;refine Bq C8 ?_;exact Al [0,1,4,5,22,23] [4,20001,5,20002,22]
   apply Ap (i:=5);rfl;rfl;rfl
   · intro w9;refine Bp (Ce (xs:=[.tmp 21]) 22 U U U (.cons (.tm U) U U .nil) ZF HE U U U U) U ?_;exact Aa Aw
   apply Ar (i:=7);rfl;rfl;rfl
   · intro w9;refine Bb FT ?_;exact Al [0,1,4,5,21,24] [4,20001,5,20002]
   apply Ap (i:=4);rfl;rfl;rfl
   · intro w9;refine Aj Ds ?_;exact Aa Aw
   apply Ar (i:=7);rfl;rfl;rfl
   · intro w9;refine Bb FT ?_;exact Al [0,1,4,5,22,24] [4,20001,5,20002,22]
   apply Ap (i:=5);rfl;rfl;rfl
   · intro w9;refine Bp (Ce (xs:=[.tmp 21]) 22 U U U (.cons (.tm U) U U .nil) ZF HE U U U U) U ?_;exact Aa Aw
   apply Ar (i:=8);rfl;rfl;rfl
   · intro w9;refine Bt (B8 U U U (.tm U) U (.tm U) (by exact .rf U) (by exact Ig (fun _=>rfl) _) ZF HE U (by (simp [AH];omega)) (by (unfold maxLen;simp [AH];omega))) U ?_;exact Al [0,1,4,5,25] [4,20001,5,20002,22]
   apply Ar (i:=9);rfl;rfl;rfl
   · intro w9;refine Bq C8 ?_;exact Al [0,1,4,5,25,26] [4,20001,5,20002,22]
   apply Ar (i:=10);rfl;rfl;rfl
   · intro w9;refine A4 FT ?_;exact Al [0,1,4,5] [4,20001,5,20002,22]
   refine Dag.fin (k:=26) U ?_;refine Aa (As (Le.sw 20002 22 _) ?_);refine Ad (Ab ?_);refine Ab ?_;refine Ac (Ak U (.no U) U (.tm U) (.tm U) Z9 IK (fun _=>⟨by omega,(by exact Ao hd)⟩)) U ?_;refine A7 VL ?_;refine Aj ty3 ?_;refine Ah ?_;refine Aa ?_
   repeat (with_reducible refine Av ?_)
   refine BV.next (d.from_) (d.step::W) ⟨⟨⟨hf0,by omega⟩,by simp;omega⟩,by rw [←he,hup.2];simp⟩ (by omega) (Au rfl ⟨rfl,rfl,rfl,rfl,Y⟩ ⟨(by rfl),(by rfl),(by rfl),(by rfl),Y⟩)
 try simp at h16
 have hfn:d.from_<0:=by (first|omega|(simp at h16;omega))
 refine Bf (Ae (As (Ay [0,1,4,5] [4,20001,5,20002]) ?_));refine Ad (Ab ?_);refine Ac (Ak U (.no U) U (.tm U) (.const U) Z9 IK (fun _=>⟨by omega,(by exact Ao h00)⟩)) U ?_;refine A7 Il ?_;refine Aj ty3 ?_;refine Bq GP ?_;refine A4 ty3 ?_;refine Aa (Af (Bb D6 ?_));refine A4 D6 ?_;refine Aa (Aq (Res.one U (.cell U U D6 U U .nil) U ?_))
 (have hu:=PG (f:=κ.toNat) hd hfn);rw [hu,List.nil_append] at he;rw [he];rfl
theorem HY (g:AC) (a:AA) (c x y:Int):FnT ZA 28 [.agg (AG g),.agg (AE a),.one (.v (.int .i64 c)),.one (.v (.int .i64 x)),.one (.v (.int .i64 y))] (.tup [.agg (BO (DT g a c x y).1),.one (.v (.bool (DT g a c x y).2))]):=by
 refine A8 Aaa U (by kernel_rfl) Aab U fun hlen w0=>?_
 try simp [AP,AG,BG,BO,AE] at hlen
 skip
 refine Af (Ac (Bg U U U (.tm U) (ts:=_) (by rfl)) U ?_);refine Ac (Bg U U U (.tm U) (ts:=_) (by rfl)) U ?_;refine A6 (Bd 10 U U U Ha U U U) U ?_;refine Cz (b:=10) 20001 2 1 U U U ?_;refine An ?_;refine Aa (Ae (Af (Aj B7 ?_)));refine Aj B6 ?_;refine Ab ?_;refine By (He g a x 0) ?_;refine Cy ?_;refine Ab ?_;refine Ac (Br U (by exact .not1 U U U U) U (.tmp U (by exact fun _=>rfl)) B7 U U) U ?_;refine Ac (Br U (by exact .not1 U U U U) U (.tmp U (by exact fun _=>rfl)) B6 U U) U ?_;refine AWl.mw ?_;refine Ac (Cw U (by exact .not1 U U U U) U (.cons (.tmp U (by exact id)) U (.cons (.tmp U (by exact id)) U (.cons (.tmp U (by exact id)) U (.cons (.const U) U .nil)))) fun hq=>FnT.fr (He g a y 0)) U ?_;refine Ac (Du U (by exact .not1 U U U U) U (.tmp U (by exact id))) U ?_;refine Co ?_;refine Ab ?_;refine AWl.mw ?_
 refine Ac (Cw U (by exact .not1 U U U U) U (.cons (.tmp U (by exact id)) U (.cons (.const U) U (.cons (.const U) U .nil))) fun hq=>FnT.fr (DR c 0 4)) U ?_;refine Ac (Du U (by exact .not1 U U U U) U (.tmp U (by exact id))) U ?_;refine Co ?_;refine Aa (Ai (.tm U) (fun h30=>?_) (fun h30=>?_))
 · try simp at h30
   have hno:Hb g a c x y=false:=by (unfold Hb GB;revert h30;cases HG g a x 0<;>cases HG g a y 0<;>cases inB c 0 4<;>simp)
   refine Ae (As (Ay [0,1,2,3,4,5,6,10,11] [10,20001]) ?_);refine Ad (Ac (Bm (ps:=[]) U U U Ha U U Um .nil U) U ?_);refine Cg (i:=31) 20002 2 1 U U U ?_;refine A4 D6 ?_;refine Bv (Ay [0,1,2,3,4,5,6,10,11] [10,20001,20002]) ?_;refine An ?_;refine Aa (Aq (Cd U (.cell U U D6 U U (.tmp U .nil)) U ?_ (by simp)))
   unfold DT;rw [if_neg (by rw [hno];simp)];rfl
 try simp at h30
 have hok:Hb g a c x y=true:=by (unfold Hb GB;revert h30;cases HG g a x 0<;>cases HG g a y 0<;>cases inB c 0 4<;>simp)
 obtain⟨hg,ha,hx,hy⟩:=QD hok
 have hel:=Ln ha hg (c:=c) hx
 refine Am (Ae (As (Ay [0,1,2,3,4,5,6,10,11] [10,20001]) ?_));refine Ad (Aj B7 ?_);refine Aj B6 ?_;refine Ab ?_;refine Ab ?_;refine By (IT g a ha hg c x hx) ?_;refine Ah ?_;refine Aa (Ae (Af (An ?_)));refine Aa (AW.block (B9 (fun (k:Nat)=>(k≤(E8 g a c x).length∧∀ i di,i<k→(E8 g a c x)[i]?=some di→¬ (di.node=y∧Iu g a di=true))∧True) (fun (k:Nat)=>⟨_,[(13,(true,.a (.one (.t (.v (.int .i64 (k:Nat))))))),(4,_),(5,_),(6,_),(10,_),(12,_)],[(10,.box [.t (.v (.int .i64 0)),.rf 20001]),(20001,.row 2 [])]⟩) (fun (k:Nat)=>(E8 g a c x).length-k) (0) ⟨⟨Nat.zero_le _,fun i _ hi=>absurd hi (Nat.not_lt_zero i)⟩,Y⟩ Aw ?_))
 rintro k ⟨hk,he⟩
 refine Ae (Af (Ab ?_));refine Ab ?_;refine Bi (.t) Z9 ?_;refine AWl.lt ?_;refine Aa (Ai (.tm U) (fun h40=>?_) (fun h40=>?_))
 · try simp at h40
   obtain⟨d,hd⟩:∃ ξ,(E8 g a c x)[k]?=some ξ:=⟨_,ZN (by omega)⟩
   have hr:=(Jr ha hg (c:=c) hx).1 (ZO.2 ⟨d,ZL hd,rfl⟩)
   have hrr:=hr.rng ha hg hx
   refine Am (Ae (AW.block (Ae (Bx 22 (DM [[],[],[0,1],[0,1,2],[0,1,2,3],[],[0,1,2,3,4,5],[0,1,2,3,4,5,6],[0,1,2,3,4,5,6,7],[0,1,2,3,4,5,6,7],[0,1,2,3,4,5,6,7],[0,1,2,3,4,5,6,7],[0,1,2,3,4,5,6,7,10,11],[0,1,2,3,4,5,6,7,10,11,12],[0,1,2,3,4,5,6,7,10,11,12,13],[0,1,2,3,4,5,6,7],[0,1,2,3,4,5,6,7],[0,1,2,3,4,5,6,7,15,16],[0,1,2,3,4,5,6,7,15,16,17],[0,1,2,3,4,5,6,7,15,16,17,18],[0,1,2,3,4,5,6,7,8,9,10,11,12,13,14,15,16,17,18,19],[0,1,2,3,4,5,6,7,8,9,10,11,12,13,14,15,16,17,18,19,20]]) (by kernel_rfl) (by kernel_rfl) (by kernel_rfl) ?_))));refine Az ?_;refine Az ?_;refine AB.s (fun _ hs=>(by exact Ak U (.no U) (Ag hs U) (hs.tm U) (hs.tm U) Z9 IK (fun _=>⟨by omega,(by exact Ao hd)⟩))) ?_;refine Bz Il ?_;refine A5 ty3 ?_;refine Az ?_;refine AB.s (fun _ hs=>Kc U (.no U) (Ag hs U) (hs.tm U) (hs.tm U)) ?_;refine Az ?_
   refine AB.s (fun _ hs=>(by exact Br U (by exact hs.y1) (Ag hs U) (hs.tm U) B7 U U)) ?_;refine AB.s (fun _ hs=>(by exact Br U (by exact hs.y1) (Ag hs U) (hs.tm U) B6 U U)) ?_;refine AB.s (fun _ hs=>Bh U (by exact hs.y1) (Ag hs U) (hs.tm U)) ?_;refine AB.s (fun _ hs=>Bh U (by exact hs.y1) (Ag hs U) (hs.tm U)) ?_;refine AB.s (fun _ hs=>(by exact Ak U (by exact hs.y1) (Ag hs U) (hs.ti U) (hs.ti U) Z9 IK (fun hq=>by (try simp at hq);exact⟨by omega,(by exact Ao hd)⟩))) ?_;refine AB.s (fun _ hs=>(by exact Bu U (by exact hs.y1) (Ag hs U) (hs.ti U) Il)) ?_;refine AB.s (fun _ hs=>(by exact Br U (by exact hs.y1) (Ag hs U) (hs.ti U) ty3 U U)) ?_;refine AB.s (fun _ hs=>Bh U (by exact hs.y1) (Ag hs U) (hs.tm U)) ?_;refine AB.s (fun _ hs=>Bh U (by exact hs.y1) (Ag hs U) (hs.tm U)) ?_
   refine AB.s (fun _ hs=>(by exact Ak U (by exact hs.y1) (Ag hs U) (hs.ti U) (hs.ti U) Z9 IK (fun hq=>by (try simp at hq);exact⟨by omega,(by exact Ao hd)⟩))) ?_;refine AB.s (fun _ hs=>(by exact Bu U (by exact hs.y1) (Ag hs U) (hs.ti U) Qk)) ?_;refine AB.s (fun _ hs=>(by exact Br U (by exact hs.y1) (Ag hs U) (hs.ti U) ty3 U U)) ?_;refine AB.s (fun _ hs=>Cw U (by exact hs.y1) (Ag hs U) (.cons (hs.ti U) (AD hs U) (.cons (hs.ti U) (AD hs U) (.cons (hs.ti U) (AD hs U) (.cons (hs.ti U) (AD hs U) .nil)))) fun hq=>FnT.fr (IU g a ha hg d.node hrr.1 d.set hrr.2)) ?_;refine AB.s (fun _ hs=>IJ U (.no U) (Ag hs U) (hs.tm U) (hs.ti U)) ?_;refine Bs U U ?_;refine Aa (Ai (.tm U) (fun h64=>?_) (fun h64=>?_))
   · try simp at h64
     have hb:d.node=y∧Iu g a d=true:=by simpa [Iu] using h64
     have hkl:=(ZH.1 hd).1
     refine Ae (As (Ay [4,5,6,10,12,13] [10,20001]) ?_);refine Ad (Ab ?_);refine Ab ?_;refine Cj (Dc 6700 (QR g a c x (E8 g a c x) U hel k hkl) U U U (.cons (.tm U) U (.cons (.tm U) U .nil)) U U) U ?_;refine A4 D6 ?_;refine Bv (Ay [4,5,6,10,12,13] [10,20001,6700]) ?_;refine An ?_;refine Aa (Aq (Cd U (.cell U U D6 U U (.tmp U .nil)) U ?_ (by simp)))
     rw [Ym ha hg hx hy hok hd hb hk.2];rfl
   try simp at h64
   have hb:¬ (d.node=y∧Iu g a d=true):=by simpa [Iu] using h64
   refine Am (As (Ay [4,5,6,10,12,13] [10,20001]) ?_);refine Ad (Ab ?_);refine A9 ?_;refine Ah ?_;refine Aa ?_
   repeat (with_reducible refine Av ?_)
   refine BF.next (k+1) ⟨⟨by omega,fun i di hi hdi=>(by rcases Nat.lt_or_eq_of_le (Nat.le_of_lt_succ hi) with h|h;(exact hk.2 i di h hdi);(subst h;rw [hd] at hdi;cases hdi;exact hb))⟩,Y⟩ (by omega) (Au rfl ⟨rfl,rfl,rfl,rfl,rfl,rfl,Y⟩ ⟨(by rfl),(by rfl),Y⟩)
 try simp at h40
 refine Bf (Af (Ac (Bm (ps:=[]) U U U Ha U U Um .nil U) U ?_));refine Cg (i:=68) 20003 2 1 U U U ?_;refine A4 D6 ?_;refine Bv (Ay [4,5,6,10,12,13,40] [10,20001,20003]) ?_;refine An ?_;refine Aa (Aq (Cd U (.cell U U D6 U U (.tmp U .nil)) U ?_ (by simp)))
 rw [W7 ha hg hx hy (fun i di hdi=>hk.2 i di (by have:=(ZH.1 hdi).1;first|omega|(simp at h40;omega)) hdi)];rfl
theorem WS {nx:Nat→List Int} {G:Nat→Bool} {s:Int} {k:Int} (h:Rch nx (·∈[s]) k):GZ nx G k.toNat→GZ nx G s.toNat:=by
 induction h with
 | base h=>rw [ZD] at h;subst h;exact id
 | step _ hk ih=>exact fun hc=>ih (.step hk hc)
theorem X8 {nx:Nat→List Int} {G:Nat→Bool} {N:Nat} (hn:∀ p,p<N→∀ k∈nx p,0≤k∧k<(N:Int)) {S:Int→Prop} {i:Nat} (h:GZ nx G i):i<N→Rch nx S (i:Int)→∃ j:Nat,j<N∧Rch nx S (j:Int)∧G j=true:=by
 induction h with
 | goal h=>exact fun hi hr=>⟨_,hi,hr,h⟩
 | @step i z hz _ ih=>
  intro hi hr
  have hb:=hn i hi z hz
  exact ih (by omega) (by rw [ZC hb.1];exact .step hr (by rw [ZI];exact hz))
theorem RE (v w:Int):CZ 0 v w=true:=by simp [CZ]
theorem XC (g:AC) (x:Int):CB g 0 x=AV g x:=by
 unfold CB
 exact List.filter_eq_self.2 fun y _=>RE _ _
theorem XS (g:AC) (a:AA) (i:Nat):nxC g a 0 i=nxN g a i:=by
 unfold nxC nxN Lg AL
 rw [XC]
theorem Of {g:AC} {a:AA} (ha:AJ a=true) (hg:AI g=true) {c x y:Int} (hx:0≤x∧x<g.Values.length) (hy:0≤y∧y<g.Values.length):0≤Ed g a c x y↔GZ (nxC g a c) (Eu g a y) (vtx a x a.Start.toNat):=by
 have hA:=AR ha
 have hI:=R9 ha hg c hy (CH hg hy).1
 have hs:=FV (g:=g) ha hx
 have e:x*(a.Accept.length:Int)+a.Start=((vtx a x a.Start.toNat:Nat):Int):=by
  unfold vtx;rw [ZP,ZQ,ZC hx.1,ZC hA.2.2.2.1]
 have hNn:((NP g a:Nat):Int)=((a.Accept.length*g.Values.length:Nat):Int):=rfl
 have hi:vtx a x a.Start.toNat<NP g a:=by omega
 unfold Ed
 rw [e]
 exact hI.can (fun p hp=>Je ha hg hp) hi
theorem Qt {nx nx':Nat→List Int} {G:Nat→Bool} (hs:∀ p,∀ k∈nx p,k∈nx' p) {i:Nat} (h:GZ nx G i):GZ nx' G i:=by
 induction h with
 | goal h=>exact .goal h
 | step hz _ ih=>exact .step (hs _ _ hz) ih
theorem Vw {g:AC} {a:AA} {c c':Int} (hc:∀ v w,CZ c v w=true→CZ c' v w=true) (p:Nat):∀ k∈nxC g a c p,k∈nxC g a c' p:=fun k hk=>by
 unfold nxC at hk ⊢
 obtain⟨y,hy,hk⟩:=ZG.1 hk
 unfold CB at hy ⊢
 rw [ZE] at hy
 exact ZG.2 ⟨y,ZE.2 ⟨hy.1,hc _ _ hy.2⟩,hk⟩
theorem RT {g:AC} {a:AA} (ha:AJ a=true) (hg:AI g=true) {x y:Int} (hx:0≤x∧x<g.Values.length) (hy:0≤y∧y<g.Values.length):y∈Lu g a x↔0≤Ed g a 0 x y:=by
 rw [Of ha hg hx hy]
 have hA:=AR ha
 have hs:=FV (g:=g) ha hx
 have e:x*(a.Accept.length:Int)+a.Start=((vtx a x a.Start.toNat:Nat):Int):=by
  unfold vtx;rw [ZP,ZQ,ZC hx.1,ZC hA.2.2.2.1]
 have hNn:((NP g a:Nat):Int)=((a.Accept.length*g.Values.length:Nat):Int):=rfl
 have hi:vtx a x a.Start.toNat<NP g a:=by omega
 have hnk:∀ p,p<NP g a→∀ k∈nxN g a p,0≤k∧k<(NP g a:Int):=fun p hp=>Qa ha hg hp
 have hR:=fun j:Int=>Kz (nx:=nxN g a) (N:=NP g a) hnk (l:=[x*(a.Accept.length:Int)+a.Start]) (by intro q hq;rw [ZD] at hq;subst hq;exact hs) (j:=j)
 have hrl:=(Rg ha hg hx).1
 have hrk:∀ j:Nat,j<NP g a→(0≤atI (Eh g a x) (j:Int)↔Rch (nxN g a) (·∈[x*(a.Accept.length:Int)+a.Start]) (j:Int)):=fun j hj=>by
  rw [←hR]
  unfold DI
  show _↔0≤(j:Int)∧(j:Int)<((Eh g a x).length:Int)∧0≤atI (Eh g a x) (j:Int)
  rw [hrl]
  exact⟨fun h=>⟨by omega,by omega,h⟩,fun h=>h.2.2⟩
 have hgoal:∀ j:Nat,Eu g a y j=true↔((j:Int) / (a.Accept.length:Int)=y∧acc a ((j:Int)%(a.Accept.length:Int)) (g.Values[((j:Int) / (a.Accept.length:Int)).toNat]?.getD 0)=true):=fun j=>by
  unfold Eu;rw [ZB,decide_eq_true_eq]
 rw [Vz]
 constructor
 · rintro⟨i,hiN,hh,hd⟩
   unfold OH at hh
   rw [ZB,decide_eq_true_eq] at hh
   have h1:=(hrk i hiN).1 hh.1
   have h2:=WS (G:=Eu g a y) h1 (.goal (by rw [ZI];exact (hgoal i).2 ⟨hd,hh.2⟩))
   rw [e,ZI] at h2
   exact Qt (fun p k hk=>by rw [XS];exact hk) h2
 intro hc
 have hc:GZ (nxN g a) (Eu g a y) (vtx a x a.Start.toNat):=Qt (fun p k hk=>by rw [XS] at hk;exact hk) hc
 obtain⟨j,hj,hr,hG⟩:=X8 (S:=(·∈[x*(a.Accept.length:Int)+a.Start])) hnk hc hi (.base (by rw [ZD,e]))
 have h3:=(hgoal j).1 hG
 refine⟨j,hj,?_,h3.1⟩
 unfold OH
 rw [ZB,decide_eq_true_eq]
 exact⟨(hrk j hj).2 hr,h3.2⟩
theorem NJ {g:AC} {a:AA} {c:Int} {i:Nat} {p:CU}:p∈EJ g a c i↔(0≤p.From∧p.From<i)∧(0≤p.To∧p.To<g.Values.length)∧0≤Ed g a c p.From p.To:=by
 unfold EJ Ei
 simp only [ZG,List.mem_range,ZO,ZE]
 constructor
 · rintro⟨x,hx,y,⟨hy,hb⟩,rfl⟩
   unfold IH at hb
   rw [decide_eq_true_eq] at hb
   exact⟨⟨by simp,by simpa using hx⟩,⟨by simp,by simpa using hy⟩,hb⟩
 rintro⟨⟨h0,h1⟩,⟨h2,h3⟩,h4⟩
 have e1:((p.From.toNat:Nat):Int)=p.From:=by omega
 have e2:((p.To.toNat:Nat):Int)=p.To:=by omega
 refine⟨p.From.toNat,by omega,p.To.toNat,⟨by omega,?_⟩,?_⟩
 · unfold IH;rw [decide_eq_true_eq,e1,e2];exact h4
 rw [e1,e2]
theorem Hf {g:AC} {a:AA} {c:Int} {p:CU}:p∈CN g a c↔EA g a=true∧inB c 0 4=true∧(0≤p.From∧p.From<g.Values.length)∧(0≤p.To∧p.To<g.Values.length)∧0≤Ed g a c p.From p.To:=by
 unfold CN
 split
 · rename_i h
   rw [ZB] at h
   rw [NJ]
   simp [h]
 rename_i h
 rw [ZB] at h
 simp only [List.not_mem_nil,false_iff]
 exact fun h1=>h ⟨h1.1,h1.2.1⟩
theorem Lp {g:AC} {a:AA} {c c':Int} (hc:∀ v w,CZ c v w=true→CZ c' v w=true) (hi:inB c' 0 4=true):∀ p∈CN g a c,p∈CN g a c':=fun p hp=>by
 rw [Hf] at hp ⊢
 obtain⟨hgc,_,hx,hy,hd⟩:=hp
 obtain⟨hg,ha⟩:=JK hgc
 exact⟨hgc,hi,hx,hy,(Of ha hg hx hy).2 (Qt (Vw hc) ((Of ha hg hx hy).1 hd))⟩
theorem Py (g:AC) (a:AA):CN g a 0=KF g a:=by
 unfold CN KF
 rw [show inB 0 0 4=true by decide,ZJ]
 split
 · rename_i hgc
   obtain⟨hg,ha⟩:=JK hgc
   refine HT Lb (Kp g a 0 _) (Lv g a _) fun p=>?_
   rw [NJ,Pm]
   constructor
   · rintro⟨hx,hy,hd⟩
     exact⟨hx,(RT ha hg hx hy).2 hd⟩
   rintro⟨hx,hy⟩
   have hyr:=Wj ha _ hy
   exact⟨hx,hyr,(RT ha hg hx hyr).1 hy⟩
 rfl
theorem RF {g:AC} {a:AA} {c:Int}:∀ p∈CN g a c,p∈KF g a:=fun p hp=>by
 rw [←Py]
 exact Lp (fun _ _ _=>RE _ _) (by decide) p hp
theorem X5 {g:AC} {a:AA}:∀ p∈CN g a 3,p∈CN g a 2:=Lp (fun v w h=>by simp [CZ] at h ⊢;omega) (by decide)
theorem Js {g:AC} {a:AA} (c:Int):(CN g a c).length≤25:=by
 unfold CN
 split
 · rename_i h
   rw [ZB] at h
   have hG:=CA (JK h.1).1
   exact ZR (KD g a c _) (ZR (Nat.mul_le_mul (show g.Values.length≤5 by omega) (show g.Values.length≤5 by omega)) (by decide))
 simp
theorem RO {g:AC} (hg:AI g=true) {u:Int} {z:DB} (h:z∈AV g u):DF g z.step=u∧EY g z.step=z.to∧(CX g z.step).2=true:=by
 unfold AV Fe at h
 obtain⟨e,he,h⟩:=ZG.1 h
 obtain⟨k,hk⟩:=List.getElem?_of_mem he
 unfold Gk at h
 rcases List.mem_append.1 h with h|h
 · split at h
   · rename_i hu
     rw [ZD] at h
     subst h
     have hs:=HV (s:=⟨e.ID,false⟩) hg hk (EO hg hk)
     have hy:=Fz (s:=⟨e.ID,false⟩) hg hk (EO hg hk)
     exact⟨hs.1.trans hu,hs.2,by rw [hy]⟩
   cases h
 split at h
 · rename_i hu
   rw [ZD] at h
   subst h
   have hs:=HV (s:=⟨e.ID,true⟩) hg hk (EO hg hk)
   have hy:=Fz (s:=⟨e.ID,true⟩) hg hk (EO hg hk)
   exact⟨hs.1.trans hu,hs.2,by rw [hy]⟩
 cases h
def Ky (g:AC) (c:Int) (s:DK):Bool:=decide (0≤DF g s)&&decide (0≤EY g s)&&CZ c (AL g (DF g s)) (AL g (EY g s))
def Nf (g:AC) (c:Int) (w:EV):Bool:=w.Steps.all (Ky g c)&&(inB c 0 4&&(BR g w).2)
def Fi (g:AC) (a:AA) (c y:Int):Nat→Int→Nat→List Nat
 | 0,_,m=>[m]
 | r+1,u,m=>match H7 g a c y r u m with
  | none=>[m]
  | some z=>m::Fi g a c y r z.to (DX a m (AL g u) z.letter)
theorem LV {g:AC} {a:AA} {c y:Int} {r:Nat} {u:Int} {m:Nat} {z:DB} (h:H7 g a c y r u m=some z):Fi g a c y (r+1) u m=m::Fi g a c y r z.to (DX a m (AL g u) z.letter):=by
 rw [Fi,h]
structure Wg (g:AC) (a:AA) (c y:Int) (r:Nat) (u:Int) (m:Nat):Prop where
 ru:0≤u∧u<g.Values.length
 rm:m<2^a.Accept.length
 pos:0<cwC g a c y r u m
theorem Wg.next {g:AC} {a:AA} {c y:Int} (ha:AJ a=true) (hg:AI g=true) {r:Nat} {u:Int} {m:Nat} (h:Wg g a c y (r+1) u m):∃ z,H7 g a c y r u m=some z∧z∈CB g c u∧z∈AV g u∧Wg g a c y r z.to (DX a m (AL g u) z.letter):=by
 obtain⟨z,hz⟩:=LC h.pos
 have h1:=ND hz
 have h2:=(ZE.1 h1.1).1
 have h3:=DO hg h2
 exact⟨z,hz,h1.1,h2,h3.2.2,JU ha h.rm (CH hg h.ru).2 (k:=z.letter) ⟨h3.1,by omega⟩,h1.2⟩
theorem SP {g:AC} {a:AA} {c y:Int} (ha:AJ a=true) (hg:AI g=true):∀ (r:Nat) {u:Int} {m:Nat},Wg g a c y r u m→(gwS g a c y r u m).length=r
 | 0,_,_,_=>by simp [gwS]
 | r+1,u,m,h=>by
  obtain⟨z,h1,_,_,h4⟩:=h.next ha hg
  rw [K7 h1,ZS,SP ha hg r h4]
theorem P4 {g:AC} {a:AA} {c y:Int} (ha:AJ a=true) (hg:AI g=true):∀ (r:Nat) {u:Int} {m:Nat},Wg g a c y r u m→(Fi g a c y r u m).length=r+1
 | 0,_,_,_=>by simp [Fi]
 | r+1,u,m,h=>by
  obtain⟨z,h1,_,_,h4⟩:=h.next ha hg
  rw [LV h1,ZS,P4 ha hg r h4]
theorem Om {g:AC} {a:AA} {c y:Int} (ha:AJ a=true) (hg:AI g=true):∀ (r:Nat) {u:Int} {m:Nat},Wg g a c y r u m→∃ m',(Fi g a c y r u m)[r]?=some m'∧m'<2^a.Accept.length∧Hy a m' (AL g y)=true
 | 0,u,m,h=>by
  have h1:=HJ.1 h.pos
  exact⟨m,by simp [Fi],h.rm,by rw [←h1.1];exact h1.2⟩
 | r+1,u,m,h=>by
  obtain⟨z,h1,_,_,h4⟩:=h.next ha hg
  obtain⟨m',h5,h6⟩:=Om ha hg r h4
  exact⟨m',by rw [LV h1,List.getElem?_cons_succ];exact h5,h6⟩
theorem R3 {g:AC} {a:AA} {c y:Int} (ha:AJ a=true) (hg:AI g=true):∀ (r:Nat) {u:Int} {m:Nat} {L:List Int},Wg g a c y r u m→HC L=u→∃ M,E1 g (gwS g a c y r u m) L=(M,true)∧HC M=y∧L.length≤M.length
 | 0,u,m,L,h,hL=>by
  have h1:=HJ.1 h.pos
  exact⟨L,by simp [gwS,E1],hL.trans h1.1,ZK _⟩
 | r+1,u,m,L,h,hL=>by
  obtain⟨z,h1,_,h3,h4⟩:=h.next ha hg
  have hf:=RO hg h3
  obtain⟨M,h5,h6,h7⟩:=R3 ha hg r (L:=L++[EY g z.step]) h4 (by rw [K5];exact hf.2.1)
  exact⟨M,by rw [K7 h1,E1,if_pos (hf.1.trans hL.symm)];exact h5,h6,by simp at h7;omega⟩
theorem R4 {g:AC} {a:AA} {c y:Int} (ha:AJ a=true) (hg:AI g=true):∀ (r:Nat) {u:Int} {m:Nat},Wg g a c y r u m→(gwS g a c y r u m).all (Ky g c)=true
 | 0,_,_,_=>by simp [gwS]
 | r+1,u,m,h=>by
  obtain⟨z,h1,h2,h3,h4⟩:=h.next ha hg
  have hf:=RO hg h3
  have h5:=(DO hg h3).2.2
  rw [K7 h1,List.all_cons,R4 ha hg r h4,ZJ]
  unfold Ky
  rw [hf.1,hf.2.1,(ZE.1 h2).2]
  have:=h.ru.1
  simp;omega
theorem Wg.start {g:AC} {a:AA} (ha:AJ a=true) (hg:AI g=true) {c x y:Int} (hx:0≤x∧x<g.Values.length) (hy:0≤y∧y<g.Values.length) (hd:0≤Ed g a c x y):Wg g a c y (Ed g a c x y).toNat x (2^a.Start.toNat):=by
 have hA:=AR ha
 exact⟨hx,ZM (by omega) (by omega),(LP ha hg hx hy).1 hd⟩
theorem HQ {g:AC} {a:AA} (ha:AJ a=true) (hg:AI g=true) {c x y:Int} (hx:0≤x∧x<g.Values.length) (hy:0≤y∧y<g.Values.length) (hc:inB c 0 4=true) (hd:0≤Ed g a c x y):∃ W:EV,DT g a c x y=(W,true)∧W=⟨x,gwS g a c y (Ed g a c x y).toNat x (2^a.Start.toNat)⟩∧(∃ M,BR g W=(M,true)∧HC M=y∧1≤M.length)∧Nf g c W=true:=by
 have hw:=Wg.start ha hg hx hy hd
 have hl:=Og ha hg (c:=c) hx hy
 have hok:Hb g a c x y=true:=by
  unfold Hb GB
  rw [hc,←JQ,←JQ]
  unfold II inB
  rw [hg,ha]
  simp;omega
 obtain⟨M,h1,h2,h3⟩:=R3 ha hg _ (L:=[x]) hw rfl
 have hwk:BR g ⟨x,gwS g a c y (Ed g a c x y).toNat x (2^a.Start.toNat)⟩=(M,true):=by
  unfold BR
  rw [if_pos]
  · exact h1
  unfold Gg inB
  rw [hg,SP ha hg _ hw]
  simp;omega
 refine⟨_,?_,rfl,⟨M,hwk,h2,by simpa using h3⟩,?_⟩
 · unfold DT;rw [if_pos ⟨hok,hd⟩]
 unfold Nf
 rw [hwk,hc,Bool.and_self,ZJ]
 exact R4 ha hg _ hw
end Go.Q
