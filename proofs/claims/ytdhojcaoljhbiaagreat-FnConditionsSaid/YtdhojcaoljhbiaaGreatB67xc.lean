import Derived.Test.YtdhojcaoljhbiaaGreatB152xc
import Derived.Test.YtdhojcaoljhbiaaGreatKnnxc
set_option linter.unusedVariables false
set_option linter.unusedSimpArgs false
set_option maxRecDepth 100000
set_option maxHeartbeats 1000000
open Go.Proofs.Tryz renaming underlying88->Z9,prog->ZA,underlying40->ZB,underlying148->ZC,underlying34->ZV,underlying48->ZX,func112->Aag,ntmps112->Aah,func121->Aai,ntmps121->Aaj,func159->Aak,ntmps159->Aal,func110->Aam,ntmps110->Aan,func111->Aao,ntmps111->Aap,func55->Aaq,ntmps55->Aar,func56->Aas,ntmps56->Aat,underlying33->Aau,func22->Aav,ntmps22->Aaw
open List renaming take_of_length_le->ZD,range->ZG,getElem?_eq_getElem->ZI,map_congr_left->ZJ,length_map->ZK,length_append->ZL,mem_of_getElem?->ZM,set_set->ZN,append_assoc->ZO,map_map->ZP,length_filter_le->ZQ,mem_range->ZY,map_set->Aaa,length_take->Aad,length_cons->Aae,length_nil->Aaf
open Nat renaming le_trans->ZE,zero_le->ZF,succ_mul->ZH,mul_le_mul_right->ZR,le_refl->ZZ,zero_mul->Aac
open Int renaming le_trans->ZS,mul_le_mul->ZT,mul_nonneg->ZU,natCast_mul->ZW,toNat_natCast->Aab
namespace Go.Q
open Go.D Go.Proofs.YtdhojcaoljhbiaaGreat
def nvR (nx:Nat→List Int) (N p:Nat) (l:List Int):List (List T):=(ZG N).map fun (i:Nat)=>[T.sl 1 ((H5 nx p l i).map AQ)]
theorem Jf {nx:Nat→List Int} {N p:Nat} (l:List Int) (h:p<N):(nvR nx N p l)[p]?=some [T.sl 1 (l.map AQ)]:=by
 unfold nvR
 rw [CD _ h]
 unfold H5
 rw [if_neg (by omega),if_pos rfl]
theorem MT {nx:Nat→List Int} {N p:Nat} (l:List Int) (y:Int):(nvR nx N p l).set p [T.sl 1 (l.map AQ++[AQ y])]=nvR nx N p (l++[y]):=by
 have h:=H6 1 AQ (H5 nx p l) y (n:=N) (i:=p)
 rw [show H5 nx p l p=l by unfold H5;rw [if_neg (by omega),if_pos rfl]] at h
 unfold nvR
 rw [h]
 congr 1
 funext i
 rw [Uu]
theorem Rm (nx:Nat→List Int) (N:Nat):List.replicate N [T.sl 1 []]=nvR nx N 0 []:=by
 unfold nvR H5
 apply List.ext_getElem<;>simp
theorem Ld (nx:Nat→List Int) (N p:Nat):nvR nx N p (nx p)=nvR nx N (p+1) []:=by
 unfold nvR
 congr 1
 funext i
 rw [S5]
theorem Xc (nx:Nat→List Int) {N p:Nat} (h:N≤p):nvR nx N p []=((ZG N).map nx).map DV:=by
 unfold nvR
 rw [ZP]
 apply ZJ;intro i hi
 have:=ZY.1 hi
 unfold H5
 rw [if_pos (by omega)]
 rfl
theorem Yx (g:AC) (a:AA) (c:Int) {x s:Nat} (h:s<a.Accept.length):nxC g a c (x*a.Accept.length+s)=(CB g c x).flatMap (E5 a s (AL g x)):=by
 unfold nxC
 rw [(FQ h).1,(FQ h).2]
def Fa (g:AC) (c:Int):List (List DB):=(ZG g.Values.length).map fun (x:Nat)=>CB g c x
theorem JS {g:AC} (hg:AI g=true) (c x:Int):(CB g c x).length≤24:=ZE (ZQ _ _) (ZE (FH _ _) (by have:=CA hg;omega))
theorem Xb {g:AC} (a:AA) (hg:AI g=true) (c:Int) (p:Nat):(nxC g a c p).length≤1536:=ZE (Gb (b:=64) (fun y=>by rw [Fm];exact Ls _) _) (ZR 64 (JS hg c _))
def GV (g:AC) (c:Int) (x:Nat):List (List T):=(ZG g.Values.length).map fun (i:Nat)=>[T.sl 4 ((if i<x then CB g c i else AV g i).map GU)]
theorem BU {g:AC} (c:Int) {x:Nat} (h:x<g.Values.length):(GV g c x)[x]?=some [T.sl 4 ((AV g x).map GU)]:=by
 unfold GV
 rw [CD _ h,if_neg (by omega)]
theorem Tc (g:AC) (c:Int) (x:Nat):(GV g c x).set x [T.sl 4 ((CB g c x).map GU)]=GV g c (x+1):=by
 unfold GV
 rw [Pd]
 apply ZJ;intro i _
 by_cases h:i=x
 · subst h;rw [if_pos rfl,if_pos (by omega)]
 rw [if_neg h]
 by_cases h1:i<x
 · rw [if_pos h1,if_pos (by omega)]
 rw [if_neg h1,if_neg (by omega)]
theorem RX (g:AC) (c:Int):(Ol g).map Oi=GV g c 0:=by
 unfold Ol GV
 rw [ZP]
 apply ZJ;intro i _
 rw [if_neg (by omega)];rfl
theorem Td (g:AC) (c:Int) {x:Nat} (h:g.Values.length≤x):GV g c x=(Fa g c).map Oi:=by
 unfold Fa GV
 rw [ZP]
 apply ZJ;intro i hi
 have:=ZY.1 hi
 rw [if_pos (by omega)];rfl
def Ei (g:AC) (a:AA) (c x:Int) (k:Nat):List CU:=((ZG k).filter fun (y:Nat)=>IH g a c x y).map fun (y:Nat)=>⟨x,(y:Int)⟩
theorem ER (g:AC) (a:AA) (c x:Int) (k:Nat):Ei g a c x (k+1)=Ei g a c x k++if IH g a c x k then [⟨x,(k:Int)⟩] else []:=by
 unfold Ei
 rw [AY,List.map_append]
 cases IH g a c x k<;>rfl
theorem M3 (g:AC) (a:AA) (c x:Int) (k:Nat):(Ei g a c x k).length≤k:=by
 unfold Ei
 rw [ZK]
 exact ZE (ZQ _ _) (by simp)
def EJ (g:AC) (a:AA) (c:Int) (i:Nat):List CU:=(ZG i).flatMap fun (x:Nat)=>Ei g a c x g.Values.length
theorem Gd (g:AC) (a:AA) (c:Int) (i:Nat):EJ g a c (i+1)=EJ g a c i++Ei g a c i g.Values.length:=by
 unfold EJ;rw [List.range_succ,List.flatMap_append];simp
theorem KD (g:AC) (a:AA) (c:Int):∀ i,(EJ g a c i).length≤i*g.Values.length
 | 0=>by simp [EJ]
 | i+1=>by
  rw [Gd,ZL,ZH]
  exact Nat.add_le_add (KD g a c i) (M3 _ _ _ _ _)
def CN (g:AC) (a:AA) (c:Int):List CU:=if (EA g a&&inB c 0 4)=true then EJ g a c g.Values.length else []
open Go.RowKit
theorem GN (c v w:Int):FnT ZA 112 [.one (.v (.int .i64 c)),.one (.v (.int .i64 v)),.one (.v (.int .i64 w))] (.a (.one (.v (.bool (CZ c v w))))):=by
 refine A8 Aag U (by kernel_rfl) Aah U fun hlen w0=>?_
 try simp [BC,AP,AG,AE] at hlen
 refine Af (An ?_);refine Aa (Ae (Af (Ab ?_)));refine Aa (AW.block (Af (Bw ?_)));refine Ah ?_;refine Aa (Ai (.tm U) (fun h8=>?_) (fun h8=>?_))
 · try simp at h8
   refine Af (An ?_);refine Aa (Aq (Bl U U ?_))
   (unfold CZ;simp_all)
 try simp at h8
 refine Af (Bw ?_);refine Ah ?_;refine Aa (Ai (.tm U) (fun h10=>?_) (fun h10=>?_))
 · try simp at h10
   refine Af (Ab ?_);refine Ab ?_;refine AWl.eq ?_;refine Ah ?_;refine Aa (Aq (Bl U U ?_))
   (unfold CZ;simp_all)
 try simp at h10
 refine Af (Bw ?_);refine Ah ?_;refine Aa (Ai (.tm U) (fun h15=>?_) (fun h15=>?_))
 · try simp at h15
   refine Ae (As (Ay [0,1,2,6,7] []) ?_);refine Ad (Ab ?_);refine Ab ?_;refine Ac (MN U (.no U) U (.tm U) (.tm U)) U ?_;refine Ah ?_;refine Aa (Aq (Bl U U ?_))
   (unfold CZ;simp_all)
 try simp at h15
 refine Ae (As (Ay [0,1,2,6,7] []) ?_);refine Ad (Bw ?_);refine Ah ?_;refine Aa (Ai (.tm U) (fun h20=>?_) (fun h20=>?_))
 · try simp at h20
   refine Af (Ab ?_);refine Ab ?_;refine AWl.lt ?_;refine Ah ?_;refine Aa (Aq (Bl U U ?_))
   (unfold CZ;simp_all)
 try simp at h20
 refine Af (Bw ?_);refine Ah ?_;refine Aa (Ai (.tm U) (fun h25=>?_) (fun h25=>?_))
 · try simp at h25
   refine Af (Ab ?_);refine Ab ?_;refine Ac (GX U (.no U) U (.tm U) (.tm U)) U ?_;refine Ah ?_;refine Aa (Aq (Bl U U ?_))
   (unfold CZ;simp_all)
 try simp at h25
 refine Am (Af (An ?_));refine Aa (Aq (Bl U U ?_))
 (unfold CZ;simp_all)
theorem K0 (c v w:Int):FnT ZA 121 [.one (.v (.int .i64 c)),.one (.v (.int .i64 v)),.one (.v (.int .i64 w))] (.a (.one (.v (.bool (CZ c v w))))):=by
 refine A8 Aai U (by kernel_rfl) Aaj U fun hlen w0=>?_
 try simp [BC,AP,AG,AE] at hlen
 refine Af (An ?_);refine Aa (Ae (Af (Ab ?_)));refine Aa (AW.block (Af (Bw ?_)));refine Ah ?_;refine Aa (Ai (.tm U) (fun h8=>?_) (fun h8=>?_))
 · try simp at h8
   refine Af (An ?_);refine Aa (Aq (Bl U U ?_))
   (unfold CZ;simp_all)
 try simp at h8
 refine Af (Bw ?_);refine Ah ?_;refine Aa (Ai (.tm U) (fun h10=>?_) (fun h10=>?_))
 · try simp at h10
   refine Af (Ab ?_);refine Ab ?_;refine AWl.eq ?_;refine Ah ?_;refine Aa (Aq (Bl U U ?_))
   (unfold CZ;simp_all)
 try simp at h10
 refine Af (Bw ?_);refine Ah ?_;refine Aa (Ai (.tm U) (fun h15=>?_) (fun h15=>?_))
 · try simp at h15
   refine Ae (As (Ay [0,1,2,6,7] []) ?_);refine Ad (Ab ?_);refine Ab ?_;refine Ac (MN U (.no U) U (.tm U) (.tm U)) U ?_;refine Ah ?_;refine Aa (Aq (Bl U U ?_))
   (unfold CZ;simp_all)
 try simp at h15
 refine Ae (As (Ay [0,1,2,6,7] []) ?_);refine Ad (Bw ?_);refine Ah ?_;refine Aa (Ai (.tm U) (fun h20=>?_) (fun h20=>?_))
 · try simp at h20
   refine Af (Ab ?_);refine Ab ?_;refine AWl.lt ?_;refine Ah ?_;refine Aa (Aq (Bl U U ?_))
   (unfold CZ;simp_all)
 try simp at h20
 refine Af (Bw ?_);refine Ah ?_;refine Aa (Ai (.tm U) (fun h25=>?_) (fun h25=>?_))
 · try simp at h25
   refine Af (Ab ?_);refine Ab ?_;refine Ac (GX U (.no U) U (.tm U) (.tm U)) U ?_;refine Ah ?_;refine Aa (Aq (Bl U U ?_))
   (unfold CZ;simp_all)
 try simp at h25
 refine Am (Af (An ?_));refine Aa (Aq (Bl U U ?_))
 (unfold CZ;simp_all)
theorem Q7 (l:List DB) (f:FuncId) (caps:List T) (p:DB→Bool) (hp:∀ e∈l,FrT ZA f ([.agg (GU e)]++caps.map .one) (.a (.one (.v (.bool (p e)))))):FnT ZA 159 [.one (.sl 4 (l.map GU)),.one (.fn (.func f) [] caps)] (.a (.one (.v (.int .i64 (GQ p l 0))))):=by
 refine A8 Aak U (by kernel_rfl) Aal U fun hlen w0=>?_
 try simp [BC,AP,AG,AE] at hlen
 refine Af (An ?_);refine Aa (Ae (Af (Ab ?_)));refine Bi (.t) ZC ?_;refine Ac (Bh U (.no U) U (.const U)) U ?_;refine Aa (AW.block (De (β:=Nat) (fun x=>x≤(l).length∧∀ j y,j<x→(l)[j]?=some y→(fun e=>!p e) y=true) (fun x=>⟨_,[(8,(true,.a (.one (.t (.v (.int .i64 (x:Nat))))))),(0,_),(1,_),(7,_)],[]⟩) (fun x=>(l).length-x) (0) ⟨ZF _,fun j y hj=>absurd hj (Nat.not_lt_zero j)⟩ (Au U ⟨U,U,U,U,Y⟩ trivial) ?_));intro k hk;refine Af (AWl.lt ?_);refine Aa (Ae (Ai (.tm U) (fun hlt=>?_) (fun hlt=>?_)))
 · try simp at hlt
   obtain⟨x,hx⟩:∃ ξ,(l)[k]?=some ξ:=⟨_,ZI (by exact hlt)⟩
   refine Am (Ae (AW.block (Af (Ab ?_))));refine Ah ?_;refine Aa (Af (Ab ?_));refine Ab ?_;refine Ab ?_;refine Ac ((Ak U (.no U) U (.tm U) (.tm U) ZC D5 (fun _=>⟨by omega,(by exact Ao (by assumption))⟩))) U ?_;refine Aj D5 ?_;refine Ac (Q5 U (.no U) U (.tm U) (.cons (.tm U) U .nil) (hp x (ZM hx))) U ?_;refine Aa (Ai (.tm U) (fun h16=>?_) (fun h16=>?_))
   · try simp at h16
     refine Ae (As (Ay [0,1,5,7,8] []) ?_);refine Ad (Ab ?_);refine Ah ?_;refine Aa (Aq (Bl U U ?_))
     rw [Jo (k:=k) hk.2 hx h16];simp
   try simp at h16
   refine Am (As (Ay [0,1,5,7,8] []) ?_);refine Ad (A9 ?_);refine Ab ?_;refine Aa ?_;refine EX.next (k+1) ⟨by omega,DN hk.2 hx (by simp [h16])⟩ (by omega) (Au rfl ⟨rfl,rfl,rfl,rfl,Y⟩ trivial)
 try simp at hlt
 refine Bf (Af (An ?_));refine Aa (Aq (Bl U U ?_))
 rw [It hk.2 (by omega)]
theorem fS (l:List DB) (f:FuncId) (caps:List T) (p:DB→Bool) (hp:∀ e∈l,FrT ZA f ([.agg (GU e)]++caps.map .one) (.a (.one (.v (.bool (p e)))))) (hz:l.length≤1099511627776):FnC ZA 110 [(true,.one (.sl 4 (l.map GU))),(false,.one (.fn (.func f) [] caps))] (.a (.one (.sl 4 ((l.filter fun x=>!p x).map GU)))):=by
 refine FnC.walk Aam rfl (by kernel_rfl) Aan rfl (by rfl) fun w0=>?_
 refine As (Ay [0,1] [1000]) ?_
 try simp [BC,AP,AG,AE] at hlen
 have hfi:=Od p l 0
 have hfl:=Oe (p:=p) (l:=l) (m:=0)
 refine Af (An ?_);refine Ch (i:=4) 20001 4 U U ?_;refine Aa (Af (Ab ?_));refine Ab ?_;refine By (Q7 l f caps p hp) ?_;refine Ah ?_;refine Aa (Ae (Af (Ab ?_)));refine Bw ?_;refine Aa (Ai (.tm U) (fun h12=>?_) (fun h12=>?_))
 · skip
   simp only [decide_eq_true_eq,decide_eq_false_iff_not] at h12
   have hno:∀ x∈l,p x=false:=by (rcases hfi with h|⟨k,x,h1,h2,h3,h4⟩;exact h.2;omega)
   refine Af (Ab ?_);refine Ah ?_;refine Aa (Aq (Res.one U (.tmp U .nil) U ?_))
   rw [M1 hno];rfl
 skip
 simp only [decide_eq_true_eq,decide_eq_false_iff_not] at h12
 obtain⟨i0,x0,h1,h2,h3,h4⟩:=hfi.resolve_left fun h=>h12 h.1
 rw [Nat.zero_add] at h3
 rw [h3]
 have hi0:=(List.getElem?_eq_some_iff.1 h1).1
 have hs0:l.take i0=(l.take (i0+1)).filter fun x=>!p x:=by (rw [Jp h1,M1 h4,h2];simp)
 refine Am (Ae (Af (Ab ?_)));refine A9 ?_;refine Ah ?_;refine Aa (AW.block ?_);refine Dz (fun (j:Nat) (i:Nat) (Rr:List DB)=>((i+1≤j∧j≤l.length∧Rr.length=l.length))∧Rr.drop j=l.drop j∧Rr.take i=(l.take j).filter fun x=>!p x) (fun (j:Nat) (i:Nat) (Rr:List DB)=>⟨_,[(6,(true,.a (.one (.t (.v (.int .i64 (j:Nat))))))),(5,(true,.a (.one (.t (.v (.int .i64 (i:Nat))))))),(0,_),(1,_),(4,_)],[(1000,.row 4 (Rr.map GU))]⟩) (fun (j:Nat) (i:Nat) (Rr:List DB)=>l.length-j) (i0+1) (i0) (l) ⟨⟨ZZ _,by omega,U⟩,U,hs0⟩ Aw ?_
 rintro j i Rr ⟨hk,he⟩
 refine Ae (Af (Ab ?_));refine Ab ?_;refine Bi (.rf U) ZC ?_;refine AWl.lt ?_;refine Aa (Ai (.tm U) (fun h19=>?_) (fun h19=>?_))
 · try simp at h19
   obtain⟨x,hx⟩:∃ ξ,l[j]?=some ξ:=⟨_,ZI (by omega)⟩
   have hxR:Rr[j]?=some x:=by (rw [VR he.1 (by omega)];exact hx)
   obtain⟨r1,hr1⟩:∃ ξ,Rr[i]?=some ξ:=⟨_,ZI (by omega)⟩
   refine Am (Ae (AW.block (Af (Ab ?_))));refine Ab ?_;refine Ac (A3 U (.no U) U (.tm U) U (.tm U) ZC D5 (fun _=>⟨by omega,(Ao hxR)⟩)) U ?_;refine Ac (Ca U (.no U) U (.tm U) U (Ao hxR) D5 U U) U ?_;refine A6 (Bd 7 U U U Jk U U U) U ?_;refine A4 D5 ?_;refine Aa (Ae (As (Ay [0,1,4,5,6,7] [1000,7]) ?_));refine Ad (Ab ?_);refine Bb D5 ?_;refine Ac (Q5 U (.no U) U (.tm U) (.cons (.tm U) U .nil) (hp x (ZM hx))) U ?_;refine Cy ?_;refine Aa (Ai (.tm U) (fun h29=>?_) (fun h29=>?_))
   · try simp at h29
     refine Af (Ab ?_);refine Ab ?_;refine Bb D5 ?_;refine Ac (A3 U (.no U) U (.tm U) U (.tm U) ZC D5 (fun _=>⟨by omega,Ao hr1⟩)) U ?_;refine Cu (C0 U U U (.tm U) U (.tm U) U (Ao hr1) D5 U U U U) ?_;refine Aa (As (Ay [0,1,4,5,6,7] [1000,7]) ?_);refine Ad (Ab ?_);refine A9 ?_;refine Ah ?_;refine Aa (Ad (Ab ?_));refine A9 ?_;refine Ah ?_;refine Aa ?_
     repeat (with_reducible refine Av ?_)
     refine Ef.next (j+1) (i+1) (Rr.set i x) ⟨⟨by omega,by omega,by simp;omega⟩,by rw [Va (by omega)];exact Pw he.1 (by omega),by rw [UZ (by omega),he.2,Jp hx,h29];rfl⟩ (by omega) (Au rfl ⟨rfl,rfl,rfl,rfl,rfl,Y⟩ ⟨(by refine congrArg (fun r=>some (R.row 4 r)) ?_;first|(rw [Aaa];rfl)|rfl|(simp;done)),Y⟩)
   try simp at h29
   refine Am (Ad (Ab ?_));refine A9 ?_;refine Ah ?_;refine Aa ?_
   repeat (with_reducible refine Av ?_)
   refine Ef.next (j+1) (i) (Rr) ⟨⟨by omega,by omega,hk.2.2⟩,Pw he.1 (by omega),by rw [he.2,Jp hx,h29];simp⟩ (by omega) (Au rfl ⟨rfl,rfl,rfl,rfl,rfl,Y⟩ ⟨(by refine congrArg (fun r=>some (R.row 4 r)) ?_;first|(rw [Aaa];rfl)|rfl|(simp;done)),Y⟩)
 try simp at h19
 refine Bf (Af (Ab ?_));refine Ab ?_;refine Ac ((by exact Dj (m:=i) U (.no U) U (.tm U) U (.yes (.tm U) (fun _=>by first|rfl|omega|(simp<;>omega))) ZC D5 (fun _=>by simp;omega))) U ?_;refine Cu (XG U U U (.tm U) U ZC Jk U U) ?_;refine Aa (Ae (As (Ay [0,1,4,5,6] [1000]) ?_));refine Ad (Ab ?_);refine Ab ?_;refine Bt (Ug (m:=i) U U U (.tm U) U (.yes (.tm U) (fun _=>by first|rfl|omega|(simp<;>omega))) ZC D5 (by simp;omega)) U ?_;refine Bv (Ay [0,1,4,5,6,41] [1000]) ?_;refine Ah ?_;refine Aa (Aq (Res.one U (.tmp U .nil) U ?_));refine congrArg (fun r=>[V0.one (T.sl 4 r)]) ?_;exact VU (by rw [he.2,ZD (by omega)]) (by omega)
theorem EN (g:AC) (c x:Int) (e:DB) (v w:Int) (h0:0≤x) (hv:g.Values[x.toNat]?=some v) (h1:0≤e.to) (hw:g.Values[e.to.toNat]?=some w):FnT ZA 111 [.agg (GU e),.one (.ad [.v (.int .i64 c)]),.one (.ad (AG g)),.one (.ad [.v (.int .i64 x)])] (.a (.one (.v (.bool (!CZ c v w))))):=by
 refine A8 Aao U (by kernel_rfl) Aap U fun hlen w0=>?_
 try simp [BC,AP,AG,AE] at hlen
 refine Af (Ac (Bg U U U (.tm U) (ts:=_) (by rfl)) U ?_);refine An ?_;refine Aa (Ae (Bx 15 (DM [[],[],[1],[],[1,2,3],[1,2,3,4],[],[6],[],[8],[6,7,8,9],[6,7,8,9,10],[0,1,2,3,4,5,6,7,8,9,10,11],[0,1,2,3,4,5,6,7,8,9,10,11,12],[0,1,2,3,4,5,6,7,8,9,10,11,12,13]]) (by kernel_rfl) (by kernel_rfl) (by kernel_rfl) ?_));refine A5 ty3 ?_;refine Bz Ci ?_;refine A5 Cc ?_;refine A5 ty3 ?_;refine AB.s (fun _ hs=>(Ak U (.no U) (Ag hs U) (hs.tm U) (hs.tm U) ZB ty3 (fun _=>⟨by omega,(by exact Ao hv)⟩))) ?_;refine A5 ty3 ?_;refine Bz Ci ?_;refine A5 Cc ?_;refine Bz Ql ?_;refine A5 ty3 ?_;refine AB.s (fun _ hs=>(by exact Ak U (.no U) (Ag hs U) (hs.tm U) (hs.tm U) ZB ty3 (fun _=>⟨by omega,(by exact Ao hw)⟩))) ?_;refine A5 ty3 ?_
 refine AB.s (fun _ hs=>Bc (FnT.fr (GN c v w)) U (.no U) (Ag hs U) (.cons (hs.tm U) (AD hs U) (.cons (hs.tm U) (AD hs U) (.cons (hs.tm U) (AD hs U) .nil)))) ?_;refine AB.s (fun _ hs=>Du U (.no U) (Ag hs U) (hs.tm U)) ?_;refine AB.s (fun _ hs=>Cl U (.no U) (Ag hs U) (hs.tm U)) ?_;refine Bs U U ?_;refine Aa (Aq (Bl U U ?_))
 rfl
theorem IG (g:AC) (hg:AI g=true) (c:Int):FnT ZA 55 [.agg (AG g),.one (.v (.int .i64 c))] (.a (.one (.sl 1 ((Fa g c).map Oi)))):=by
 refine A8 Aaq U (by kernel_rfl) Aar U fun hlen w0=>?_
 try simp [BC,AP,AG,AE] at hlen
 have hG:=CA hg
 refine Af (Ac (Bg U U U (.tm U) (ts:=_) (by rfl)) U ?_);refine Ac (Bg U U U (.tm U) (ts:=_) (by exact RI _)) U ?_;refine An ?_;refine Ch (i:=4) 20001 1 U U ?_;refine Aa (Af (Aj B7 ?_));refine Cj (Dc 800 (NX g hg) U U U (.cons (.tm U) U .nil) U U) U ?_;refine Ah ?_;refine Aa (Ae (Af (Ab ?_)));refine Bi (.rf U) Z9 ?_;refine Ac (Bh U (.no U) U (.const U)) U ?_;refine Aa (AW.block (B9 (fun (x:Nat)=>(x≤g.Values.length)∧True) (fun (x:Nat)=>⟨_,[(11,(true,.a (.one (.t (.v (.int .i64 (x:Nat))))))),(5,(true,.a (.one (.rf 800)))),(2,_),(3,_),(4,_),(10,_)],[(800,.row 1 (GV g c x))]⟩) (fun (x:Nat)=>g.Values.length-x) (0) ⟨ZF _,Y⟩ (Au U ⟨U,U,U,U,U,U,Y⟩ ⟨(by refine congrArg (fun r=>some (R.row 1 r)) ?_;exact RX g c),Y⟩) ?_))
 rintro x ⟨hk,he⟩
 refine Af (AWl.lt ?_);refine Aa (Ae (Ai (.tm U) (fun h12=>?_) (fun h12=>?_)))
 · try simp at h12
   have hxV:x<g.Values.length:=by (first|omega|(simp [Ol] at h12;omega)|(simp [GV] at h12;omega))
   have hal:(AV g x).length≤24:=ZE (FH _ _) (by omega)
   have hvx:=CH hg (x:=(x:Int)) (by omega)
   refine Am (Ae (AW.block (Af (Ab ?_))));refine A6 (Bd 6 U U U in3 U U U) U ?_;refine A4 ty3 ?_;refine Aa (As (Le.frz 6 6 (xs:=[.v (.int .i64 (x:Int))]) U U U) ?_);refine AW.takeR (id:=800) (i:=x) (p:=0) 721 722 U (BU c hxV) U (fun _=>rfl) (fun _=>rfl) fun c721=>?_
   refine AW.dagn 10 53 [[],[0],[1],[2],[3],[6],[0,1],[0,2],[0,3],[0,6],[1,2],[1,3],[1,6],[2,3],[2,6],[3,6],[0,1,2],[0,1,3],[0,1,6],[0,2,3],[0,2,6],[0,3,6],[1,2,3],[1,2,6],[1,3,6],[2,3,4],[2,3,6],[0,1,2,3],[0,1,2,6],[0,1,3,6],[0,2,3,4],[0,2,3,6],[1,2,3,4],[1,2,3,6],[2,3,4,5],[2,3,4,6],[0,1,2,3,4],[0,1,2,3,6],[0,2,3,4,5],[0,2,3,4,6],[1,2,3,4,5],[1,2,3,4,6],[2,3,4,5,6],[0,1,2,3,4,5],[0,1,2,3,4,6],[0,2,3,4,5,6],[1,2,3,4,5,6],[2,3,4,5,6,7],[0,1,2,3,4,5,6],[0,2,3,4,5,6,7],[1,2,3,4,5,6,7],[0,1,2,3,4,5,6,7],[0,1,2,3,4,5,6,7,8],[0,1,2,3,4,5,6,7,8,9]] [(0,0,1),(0,1,2),(0,2,3),(0,3,4),(0,6,5),(1,1,6),(2,0,6),(1,2,7),(3,0,7),(1,3,8),(4,0,8),(1,6,9),(5,0,9),(2,2,10),(3,1,10),(2,3,11),(4,1,11),(2,6,12),(5,1,12),(3,3,13),(4,2,13),(3,6,14),(5,2,14),(4,6,15),(5,3,15),(6,2,16),(10,0,16),(7,1,16),(6,3,17),(11,0,17),(8,1,17),(6,6,18),(12,0,18),(9,1,18),(7,3,19),(13,0,19),(8,2,19),(7,6,20),(14,0,20),(9,2,20),(8,6,21),(15,0,21),(9,3,21),(10,3,22),(13,1,22),(11,2,22),(10,6,23),(14,1,23),(12,2,23),(11,6,24),(15,1,24),(12,3,24),(13,4,25),(13,6,26),(15,2,26),(14,3,26),(16,3,27),(22,0,27),(19,1,27),(17,2,27),(16,6,28),(23,0,28),(20,1,28),(18,2,28),(17,6,29),(24,0,29),(21,1,29),(18,3,29),(19,4,30),(25,0,30),(19,6,31),(26,0,31),(21,2,31),(20,3,31),(22,4,32),(25,1,32),(22,6,33),(26,1,33),(24,2,33),(23,3,33),(25,5,34),(25,6,35),(26,4,35),(27,4,36),(32,0,36),(30,1,36),(27,6,37),(33,0,37),(31,1,37),(29,2,37),(28,3,37),(30,5,38),(34,0,38),(30,6,39),(35,0,39),(31,4,39),(32,5,40),(34,1,40),(32,6,41),(35,1,41),(33,4,41),(34,6,42),(35,5,42),(36,5,43),(40,0,43),(38,1,43),(36,6,44),(41,0,44),(39,1,44),(37,4,44),(38,6,45),(42,0,45),(39,5,45),(40,6,46),(42,1,46),(41,5,46),(42,7,47),(43,6,48),(46,0,48),(45,1,48),(44,5,48),(45,7,49),(47,0,49),(46,7,50),(47,1,50),(48,7,51),(50,0,51),(49,1,51),(51,8,52),(52,9,53)] (by kernel_rfl) (by kernel_rfl) (by kernel_rfl) ?_
   apply Ar (i:=0);rfl;rfl;rfl
   · intro w9;refine Ab ?_;exact Al [2,3,4,5,6,10,11,12,14] [800,6,721,722]
   apply Ar (i:=1);rfl;rfl;rfl
   · intro w9;refine Aj ty3 ?_;exact Al [2,3,4,5,6,10,11,12,15] [800,6,721,722]
   apply Ar (i:=2);rfl;rfl;rfl
   · intro w9;refine Ab ?_;exact Al [2,3,4,5,6,10,11,12,16] [800,6,721,722]
   apply Ar (i:=3);rfl;rfl;rfl
   · intro w9;refine Aj ty3 ?_;exact Al [2,3,4,5,6,10,11,12,17] [800,6,721,722]
   apply Ar (i:=6);rfl;rfl;rfl
   · intro w9;refine Ac (Cb U (.no U) U (.cons (.tm U) (.cons (.tm U) (.cons (.tm U) .nil)))) U ?_;exact Al [2,3,4,5,6,10,11,12,20] [800,6,721,722]
   apply Ar (i:=1);rfl;rfl;rfl
   · intro w9;refine Aj ty3 ?_;exact Al [2,3,4,5,6,10,11,12,14,15] [800,6,721,722]
   apply Ap (i:=0);rfl;rfl;rfl
   · intro w9;refine Ab ?_;exact Aa Aw
   apply Ar (i:=2);rfl;rfl;rfl
   · intro w9;refine Ab ?_;exact Al [2,3,4,5,6,10,11,12,14,16] [800,6,721,722]
   apply Ap (i:=0);rfl;rfl;rfl
   · intro w9;refine Ab ?_;exact Aa Aw
   apply Ar (i:=3);rfl;rfl;rfl
   · intro w9;refine Aj ty3 ?_;exact Al [2,3,4,5,6,10,11,12,14,17] [800,6,721,722]
   apply Ap (i:=0);rfl;rfl;rfl
   · intro w9;refine Ab ?_;exact Aa Aw
   apply Ar (i:=6);rfl;rfl;rfl
   · intro w9;refine Ac (Cb U (.no U) U (.cons (.tm U) (.cons (.tm U) (.cons (.tm U) .nil)))) U ?_;exact Al [2,3,4,5,6,10,11,12,14,20] [800,6,721,722]
   apply Ap (i:=0);rfl;rfl;rfl
   · intro w9;refine Ab ?_;exact Aa Aw
   apply Ar (i:=2);rfl;rfl;rfl
   · intro w9;refine Ab ?_;exact Al [2,3,4,5,6,10,11,12,15,16] [800,6,721,722]
   apply Ap (i:=1);rfl;rfl;rfl
   · intro w9;refine Aj ty3 ?_;exact Aa Aw
   apply Ar (i:=3);rfl;rfl;rfl
   · intro w9;refine Aj ty3 ?_;exact Al [2,3,4,5,6,10,11,12,15,17] [800,6,721,722]
   apply Ap (i:=1);rfl;rfl;rfl
   · intro w9;refine Aj ty3 ?_;exact Aa Aw
   apply Ar (i:=6);rfl;rfl;rfl
   · intro w9;refine Ac (Cb U (.no U) U (.cons (.tm U) (.cons (.tm U) (.cons (.tm U) .nil)))) U ?_;exact Al [2,3,4,5,6,10,11,12,15,20] [800,6,721,722]
   apply Ap (i:=1);rfl;rfl;rfl
   · intro w9;refine Aj ty3 ?_;exact Aa Aw
   apply Ar (i:=3);rfl;rfl;rfl
   · intro w9;refine Aj ty3 ?_;exact Al [2,3,4,5,6,10,11,12,16,17] [800,6,721,722]
   apply Ap (i:=2);rfl;rfl;rfl
   · intro w9;refine Ab ?_;exact Aa Aw
   apply Ar (i:=6);rfl;rfl;rfl
   · intro w9;refine Ac (Cb U (.no U) U (.cons (.tm U) (.cons (.tm U) (.cons (.tm U) .nil)))) U ?_;exact Al [2,3,4,5,6,10,11,12,16,20] [800,6,721,722]
   apply Ap (i:=2);rfl;rfl;rfl
   · intro w9;refine Ab ?_;exact Aa Aw
   apply Ar (i:=6);rfl;rfl;rfl
   · intro w9;refine Ac (Cb U (.no U) U (.cons (.tm U) (.cons (.tm U) (.cons (.tm U) .nil)))) U ?_;exact Al [2,3,4,5,6,10,11,12,17,20] [800,6,721,722]
   apply Ap (i:=3);rfl;rfl;rfl
   · intro w9;refine Aj ty3 ?_;exact Aa Aw
   apply Ar (i:=2);rfl;rfl;rfl
   · intro w9;refine Ab ?_;exact Al [2,3,4,5,6,10,11,12,14,15,16] [800,6,721,722]
   apply Ap (i:=0);rfl;rfl;rfl
   · intro w9;refine Ab ?_;exact Aa Aw
   apply Ap (i:=1);rfl;rfl;rfl
   · intro w9;refine Aj ty3 ?_;exact Aa Aw
   apply Ar (i:=3);rfl;rfl;rfl
   · intro w9;refine Aj ty3 ?_;exact Al [2,3,4,5,6,10,11,12,14,15,17] [800,6,721,722]
   apply Ap (i:=0);rfl;rfl;rfl
   · intro w9;refine Ab ?_;exact Aa Aw
   apply Ap (i:=1);rfl;rfl;rfl
   · intro w9;refine Aj ty3 ?_;exact Aa Aw
   apply Ar (i:=6);rfl;rfl;rfl
   · intro w9;refine Ac (Cb U (.no U) U (.cons (.tm U) (.cons (.tm U) (.cons (.tm U) .nil)))) U ?_;exact Al [2,3,4,5,6,10,11,12,14,15,20] [800,6,721,722]
   apply Ap (i:=0);rfl;rfl;rfl
   · intro w9;refine Ab ?_;exact Aa Aw
   apply Ap (i:=1);rfl;rfl;rfl
   · intro w9;refine Aj ty3 ?_;exact Aa Aw
   apply Ar (i:=3);rfl;rfl;rfl
   · intro w9;refine Aj ty3 ?_;exact Al [2,3,4,5,6,10,11,12,14,16,17] [800,6,721,722]
   apply Ap (i:=0);rfl;rfl;rfl
   · intro w9;refine Ab ?_;exact Aa Aw
   apply Ap (i:=2);rfl;rfl;rfl
   · intro w9;refine Ab ?_;exact Aa Aw
   apply Ar (i:=6);rfl;rfl;rfl
   · intro w9;refine Ac (Cb U (.no U) U (.cons (.tm U) (.cons (.tm U) (.cons (.tm U) .nil)))) U ?_;exact Al [2,3,4,5,6,10,11,12,14,16,20] [800,6,721,722]
   apply Ap (i:=0);rfl;rfl;rfl
   · intro w9;refine Ab ?_;exact Aa Aw
   apply Ap (i:=2);rfl;rfl;rfl
   · intro w9;refine Ab ?_;exact Aa Aw
   apply Ar (i:=6);rfl;rfl;rfl
   · intro w9;refine Ac (Cb U (.no U) U (.cons (.tm U) (.cons (.tm U) (.cons (.tm U) .nil)))) U ?_;exact Al [2,3,4,5,6,10,11,12,14,17,20] [800,6,721,722]
   apply Ap (i:=0);rfl;rfl;rfl
   · intro w9;refine Ab ?_;exact Aa Aw
   apply Ap (i:=3);rfl;rfl;rfl
   · intro w9;refine Aj ty3 ?_;exact Aa Aw
   apply Ar (i:=3);rfl;rfl;rfl
   · intro w9;refine Aj ty3 ?_;exact Al [2,3,4,5,6,10,11,12,15,16,17] [800,6,721,722]
   apply Ap (i:=1);rfl;rfl;rfl
   · intro w9;refine Aj ty3 ?_;exact Aa Aw
   apply Ap (i:=2);rfl;rfl;rfl
   · intro w9;refine Ab ?_;exact Aa Aw
   apply Ar (i:=6);rfl;rfl;rfl
   · intro w9;refine Ac (Cb U (.no U) U (.cons (.tm U) (.cons (.tm U) (.cons (.tm U) .nil)))) U ?_;exact Al [2,3,4,5,6,10,11,12,15,16,20] [800,6,721,722]
   apply Ap (i:=1);rfl;rfl;rfl
   · intro w9;refine Aj ty3 ?_;exact Aa Aw
   apply Ap (i:=2);rfl;rfl;rfl
   · intro w9;refine Ab ?_;exact Aa Aw
   apply Ar (i:=6);rfl;rfl;rfl
   · intro w9;refine Ac (Cb U (.no U) U (.cons (.tm U) (.cons (.tm U) (.cons (.tm U) .nil)))) U ?_;exact Al [2,3,4,5,6,10,11,12,15,17,20] [800,6,721,722]
   apply Ap (i:=1);rfl;rfl;rfl
   · intro w9;refine Aj ty3 ?_;exact Aa Aw
   apply Ap (i:=3);rfl;rfl;rfl
   · intro w9;refine Aj ty3 ?_;exact Aa Aw
   apply Ar (i:=4);rfl;rfl;rfl
   · intro w9;refine Ac (A3 U (.no U) U (.tm U) U (.tm U) Z9 Df (fun _=>⟨by omega,BP _ (BU c hxV)⟩)) U ?_;exact Al [2,3,4,5,6,10,11,12,18] [800,6,721,722]
   apply Ar (i:=6);rfl;rfl;rfl
   · intro w9;refine Ac (Cb U (.no U) U (.cons (.tm U) (.cons (.tm U) (.cons (.tm U) .nil)))) U ?_;exact Al [2,3,4,5,6,10,11,12,16,17,20] [800,6,721,722]
   apply Ap (i:=2);rfl;rfl;rfl
   · intro w9;refine Ab ?_;exact Aa Aw
   apply Ap (i:=3);rfl;rfl;rfl
   · intro w9;refine Aj ty3 ?_;exact Aa Aw
   apply Ar (i:=3);rfl;rfl;rfl
   · intro w9;refine Aj ty3 ?_;exact Al [2,3,4,5,6,10,11,12,14,15,16,17] [800,6,721,722]
   apply Ap (i:=0);rfl;rfl;rfl
   · intro w9;refine Ab ?_;exact Aa Aw
   apply Ap (i:=1);rfl;rfl;rfl
   · intro w9;refine Aj ty3 ?_;exact Aa Aw
   apply Ap (i:=2);rfl;rfl;rfl
   · intro w9;refine Ab ?_;exact Aa Aw
   apply Ar (i:=6);rfl;rfl;rfl
   · intro w9;refine Ac (Cb U (.no U) U (.cons (.tm U) (.cons (.tm U) (.cons (.tm U) .nil)))) U ?_;exact Al [2,3,4,5,6,10,11,12,14,15,16,20] [800,6,721,722]
   apply Ap (i:=0);rfl;rfl;rfl
   · intro w9;refine Ab ?_;exact Aa Aw
   apply Ap (i:=1);rfl;rfl;rfl
   · intro w9;refine Aj ty3 ?_;exact Aa Aw
   apply Ap (i:=2);rfl;rfl;rfl
   · intro w9;refine Ab ?_;exact Aa Aw
   apply Ar (i:=6);rfl;rfl;rfl
   · intro w9;refine Ac (Cb U (.no U) U (.cons (.tm U) (.cons (.tm U) (.cons (.tm U) .nil)))) U ?_;exact Al [2,3,4,5,6,10,11,12,14,15,17,20] [800,6,721,722]
   apply Ap (i:=0);rfl;rfl;rfl
   · intro w9;refine Ab ?_;exact Aa Aw
   apply Ap (i:=1);rfl;rfl;rfl
   · intro w9;refine Aj ty3 ?_;exact Aa Aw
   apply Ap (i:=3);rfl;rfl;rfl
   · intro w9;refine Aj ty3 ?_;exact Aa Aw
   apply Ar (i:=4);rfl;rfl;rfl
   · intro w9;refine Ac (A3 U (.no U) U (.tm U) U (.tm U) Z9 Df (fun _=>⟨by omega,BP _ (BU c hxV)⟩)) U ?_;exact Al [2,3,4,5,6,10,11,12,14,18] [800,6,721,722]
   apply Ap (i:=0);rfl;rfl;rfl
   · intro w9;refine Ab ?_;exact Aa Aw
   apply Ar (i:=6);rfl;rfl;rfl
   · intro w9;refine Ac (Cb U (.no U) U (.cons (.tm U) (.cons (.tm U) (.cons (.tm U) .nil)))) U ?_;exact Al [2,3,4,5,6,10,11,12,14,16,17,20] [800,6,721,722]
   apply Ap (i:=0);rfl;rfl;rfl
   · intro w9;refine Ab ?_;exact Aa Aw
   apply Ap (i:=2);rfl;rfl;rfl
   · intro w9;refine Ab ?_;exact Aa Aw
   apply Ap (i:=3);rfl;rfl;rfl
   · intro w9;refine Aj ty3 ?_;exact Aa Aw
   apply Ar (i:=4);rfl;rfl;rfl
   · intro w9;refine Ac (A3 U (.no U) U (.tm U) U (.tm U) Z9 Df (fun _=>⟨by omega,BP _ (BU c hxV)⟩)) U ?_;exact Al [2,3,4,5,6,10,11,12,15,18] [800,6,721,722]
   apply Ap (i:=1);rfl;rfl;rfl
   · intro w9;refine Aj ty3 ?_;exact Aa Aw
   apply Ar (i:=6);rfl;rfl;rfl
   · intro w9;refine Ac (Cb U (.no U) U (.cons (.tm U) (.cons (.tm U) (.cons (.tm U) .nil)))) U ?_;exact Al [2,3,4,5,6,10,11,12,15,16,17,20] [800,6,721,722]
   apply Ap (i:=1);rfl;rfl;rfl
   · intro w9;refine Aj ty3 ?_;exact Aa Aw
   apply Ap (i:=2);rfl;rfl;rfl
   · intro w9;refine Ab ?_;exact Aa Aw
   apply Ap (i:=3);rfl;rfl;rfl
   · intro w9;refine Aj ty3 ?_;exact Aa Aw
   apply Ar (i:=5);rfl;rfl;rfl
   · intro w9;refine Ac (C2 (nid:=721) (hid:=722) U (.no U) U (.tm U) U (BP _ (BU c hxV)) Df U U U U U U) U ?_;exact Al [2,3,4,5,6,10,11,12,19] [800,6,721,722]
   apply Ar (i:=6);rfl;rfl;rfl
   · intro w9;refine Ac (Cb U (.no U) U (.cons (.tm U) (.cons (.tm U) (.cons (.tm U) .nil)))) U ?_;exact Al [2,3,4,5,6,10,11,12,18,20] [800,6,721,722]
   apply Ap (i:=4);rfl;rfl;rfl
   · intro w9;refine Ac (A3 U (.no U) U (.tm U) U (.tm U) Z9 Df (fun _=>⟨by omega,BP _ (BU c hxV)⟩)) U ?_;exact Aa Aw
   apply Ar (i:=4);rfl;rfl;rfl
   · intro w9;refine Ac (A3 U (.no U) U (.tm U) U (.tm U) Z9 Df (fun _=>⟨by omega,BP _ (BU c hxV)⟩)) U ?_;exact Al [2,3,4,5,6,10,11,12,14,15,18] [800,6,721,722]
   apply Ap (i:=0);rfl;rfl;rfl
   · intro w9;refine Ab ?_;exact Aa Aw
   apply Ap (i:=1);rfl;rfl;rfl
   · intro w9;refine Aj ty3 ?_;exact Aa Aw
   apply Ar (i:=6);rfl;rfl;rfl
   · intro w9;refine Ac (Cb U (.no U) U (.cons (.tm U) (.cons (.tm U) (.cons (.tm U) .nil)))) U ?_;exact Al [2,3,4,5,6,10,11,12,14,15,16,17,20] [800,6,721,722]
   apply Ap (i:=0);rfl;rfl;rfl
   · intro w9;refine Ab ?_;exact Aa Aw
   apply Ap (i:=1);rfl;rfl;rfl
   · intro w9;refine Aj ty3 ?_;exact Aa Aw
   apply Ap (i:=2);rfl;rfl;rfl
   · intro w9;refine Ab ?_;exact Aa Aw
   apply Ap (i:=3);rfl;rfl;rfl
   · intro w9;refine Aj ty3 ?_;exact Aa Aw
   apply Ar (i:=5);rfl;rfl;rfl
   · intro w9;refine Ac (C2 (nid:=721) (hid:=722) U (.no U) U (.tm U) U (BP _ (BU c hxV)) Df U U U U U U) U ?_;exact Al [2,3,4,5,6,10,11,12,14,19] [800,6,721,722]
   apply Ap (i:=0);rfl;rfl;rfl
   · intro w9;refine Ab ?_;exact Aa Aw
   apply Ar (i:=6);rfl;rfl;rfl
   · intro w9;refine Ac (Cb U (.no U) U (.cons (.tm U) (.cons (.tm U) (.cons (.tm U) .nil)))) U ?_;exact Al [2,3,4,5,6,10,11,12,14,18,20] [800,6,721,722]
   apply Ap (i:=0);rfl;rfl;rfl
   · intro w9;refine Ab ?_;exact Aa Aw
   apply Ap (i:=4);rfl;rfl;rfl
   · intro w9;refine Ac (A3 U (.no U) U (.tm U) U (.tm U) Z9 Df (fun _=>⟨by omega,BP _ (BU c hxV)⟩)) U ?_;exact Aa Aw
   apply Ar (i:=5);rfl;rfl;rfl
   · intro w9;refine Ac (C2 (nid:=721) (hid:=722) U (.no U) U (.tm U) U (BP _ (BU c hxV)) Df U U U U U U) U ?_;exact Al [2,3,4,5,6,10,11,12,15,19] [800,6,721,722]
   apply Ap (i:=1);rfl;rfl;rfl
   · intro w9;refine Aj ty3 ?_;exact Aa Aw
   apply Ar (i:=6);rfl;rfl;rfl
   · intro w9;refine Ac (Cb U (.no U) U (.cons (.tm U) (.cons (.tm U) (.cons (.tm U) .nil)))) U ?_;exact Al [2,3,4,5,6,10,11,12,15,18,20] [800,6,721,722]
   apply Ap (i:=1);rfl;rfl;rfl
   · intro w9;refine Aj ty3 ?_;exact Aa Aw
   apply Ap (i:=4);rfl;rfl;rfl
   · intro w9;refine Ac (A3 U (.no U) U (.tm U) U (.tm U) Z9 Df (fun _=>⟨by omega,BP _ (BU c hxV)⟩)) U ?_;exact Aa Aw
   apply Ar (i:=6);rfl;rfl;rfl
   · intro w9;refine Ac (Cb U (.no U) U (.cons (.tm U) (.cons (.tm U) (.cons (.tm U) .nil)))) U ?_;exact Al [2,3,4,5,6,10,11,12,19,20] [800,6,721,722]
   apply Ap (i:=5);rfl;rfl;rfl
   · intro w9;refine Ac (C2 (nid:=721) (hid:=722) U (.no U) U (.tm U) U (BP _ (BU c hxV)) Df U U U U U U) U ?_;exact Aa Aw
   apply Ar (i:=5);rfl;rfl;rfl
   · intro w9;refine Ac (C2 (nid:=721) (hid:=722) U (.no U) U (.tm U) U (BP _ (BU c hxV)) Df U U U U U U) U ?_;exact Al [2,3,4,5,6,10,11,12,14,15,19] [800,6,721,722]
   apply Ap (i:=0);rfl;rfl;rfl
   · intro w9;refine Ab ?_;exact Aa Aw
   apply Ap (i:=1);rfl;rfl;rfl
   · intro w9;refine Aj ty3 ?_;exact Aa Aw
   apply Ar (i:=6);rfl;rfl;rfl
   · intro w9;refine Ac (Cb U (.no U) U (.cons (.tm U) (.cons (.tm U) (.cons (.tm U) .nil)))) U ?_;exact Al [2,3,4,5,6,10,11,12,14,15,18,20] [800,6,721,722]
   apply Ap (i:=0);rfl;rfl;rfl
   · intro w9;refine Ab ?_;exact Aa Aw
   apply Ap (i:=1);rfl;rfl;rfl
   · intro w9;refine Aj ty3 ?_;exact Aa Aw
   apply Ap (i:=4);rfl;rfl;rfl
   · intro w9;refine Ac (A3 U (.no U) U (.tm U) U (.tm U) Z9 Df (fun _=>⟨by omega,BP _ (BU c hxV)⟩)) U ?_;exact Aa Aw
   apply Ar (i:=6);rfl;rfl;rfl
   · intro w9;refine Ac (Cb U (.no U) U (.cons (.tm U) (.cons (.tm U) (.cons (.tm U) .nil)))) U ?_;exact Al [2,3,4,5,6,10,11,12,14,19,20] [800,6,721,722]
   apply Ap (i:=0);rfl;rfl;rfl
   · intro w9;refine Ab ?_;exact Aa Aw
   apply Ap (i:=5);rfl;rfl;rfl
   · intro w9;refine Ac (C2 (nid:=721) (hid:=722) U (.no U) U (.tm U) U (BP _ (BU c hxV)) Df U U U U U U) U ?_;exact Aa Aw
   apply Ar (i:=6);rfl;rfl;rfl
   · intro w9;refine Ac (Cb U (.no U) U (.cons (.tm U) (.cons (.tm U) (.cons (.tm U) .nil)))) U ?_;exact Al [2,3,4,5,6,10,11,12,15,19,20] [800,6,721,722]
   apply Ap (i:=1);rfl;rfl;rfl
   · intro w9;refine Aj ty3 ?_;exact Aa Aw
   apply Ap (i:=5);rfl;rfl;rfl
   · intro w9;refine Ac (C2 (nid:=721) (hid:=722) U (.no U) U (.tm U) U (BP _ (BU c hxV)) Df U U U U U U) U ?_;exact Aa Aw
   apply Ar (i:=7);rfl;rfl;rfl
   · intro w9;apply Ec
     case ho=>
      apply G9 (xo:=.tmp 19) 721 (fS (AV g x) 111 [.ad [.v (.int .i64 c)],.ad (AG g),.ad [.v (.int .i64 (x:Int))]] (fun y=>!CZ c (AL g x) (AL g y.to)) (fun e he=>(EN g c x e _ _ (by omega) hvx.1 (DO hg he).2.2.1 (CH hg (DO hg he).2.2).1).fr) (by omega)) rfl rfl rfl (.tm rfl)
      case ha=>rfl
      case hargs=>exact (IM.own (FC.one (.tm rfl) .nil))
      all_goals rfl
     case hd=>rfl
     exact Al [2,3,4,5,6,10,11,12,21] [800,6,722,721]
   apply Ar (i:=6);rfl;rfl;rfl
   · intro w9;refine Ac (Cb U (.no U) U (.cons (.tm U) (.cons (.tm U) (.cons (.tm U) .nil)))) U ?_;exact Al [2,3,4,5,6,10,11,12,14,15,19,20] [800,6,721,722]
   apply Ap (i:=0);rfl;rfl;rfl
   · intro w9;refine Ab ?_;exact Aa Aw
   apply Ap (i:=1);rfl;rfl;rfl
   · intro w9;refine Aj ty3 ?_;exact Aa Aw
   apply Ap (i:=5);rfl;rfl;rfl
   · intro w9;refine Ac (C2 (nid:=721) (hid:=722) U (.no U) U (.tm U) U (BP _ (BU c hxV)) Df U U U U U U) U ?_;exact Aa Aw
   apply Ar (i:=7);rfl;rfl;rfl
   · intro w9;apply Ec
     case ho=>
      apply G9 (xo:=.tmp 19) 721 (fS (AV g x) 111 [.ad [.v (.int .i64 c)],.ad (AG g),.ad [.v (.int .i64 (x:Int))]] (fun y=>!CZ c (AL g x) (AL g y.to)) (fun e he=>(EN g c x e _ _ (by omega) hvx.1 (DO hg he).2.2.1 (CH hg (DO hg he).2.2).1).fr) (by omega)) rfl rfl rfl (.tm rfl)
      case ha=>rfl
      case hargs=>exact (IM.own (FC.one (.tm rfl) .nil))
      all_goals rfl
     case hd=>rfl
     exact Al [2,3,4,5,6,10,11,12,14,21] [800,6,722,721]
   apply Ap (i:=0);rfl;rfl;rfl
   · intro w9;refine Ab ?_;exact Aa Aw
   apply Ar (i:=7);rfl;rfl;rfl
   · intro w9;apply Ec
     case ho=>
      apply G9 (xo:=.tmp 19) 721 (fS (AV g x) 111 [.ad [.v (.int .i64 c)],.ad (AG g),.ad [.v (.int .i64 (x:Int))]] (fun y=>!CZ c (AL g x) (AL g y.to)) (fun e he=>(EN g c x e _ _ (by omega) hvx.1 (DO hg he).2.2.1 (CH hg (DO hg he).2.2).1).fr) (by omega)) rfl rfl rfl (.tm rfl)
      case ha=>rfl
      case hargs=>exact (IM.own (FC.one (.tm rfl) .nil))
      all_goals rfl
     case hd=>rfl
     exact Al [2,3,4,5,6,10,11,12,15,21] [800,6,722,721]
   apply Ap (i:=1);rfl;rfl;rfl
   · intro w9;refine Aj ty3 ?_;exact Aa Aw
   apply Ar (i:=7);rfl;rfl;rfl
   · intro w9;apply Ec
     case ho=>
      apply G9 (xo:=.tmp 19) 721 (fS (AV g x) 111 [.ad [.v (.int .i64 c)],.ad (AG g),.ad [.v (.int .i64 (x:Int))]] (fun y=>!CZ c (AL g x) (AL g y.to)) (fun e he=>(EN g c x e _ _ (by omega) hvx.1 (DO hg he).2.2.1 (CH hg (DO hg he).2.2).1).fr) (by omega)) rfl rfl rfl (.tm rfl)
      case ha=>rfl
      case hargs=>exact (IM.own (FC.one (.tm rfl) .nil))
      all_goals rfl
     case hd=>rfl
     exact Al [2,3,4,5,6,10,11,12,14,15,21] [800,6,722,721]
   apply Ap (i:=0);rfl;rfl;rfl
   · intro w9;refine Ab ?_;exact Aa Aw
   apply Ap (i:=1);rfl;rfl;rfl
   · intro w9;refine Aj ty3 ?_;exact Aa Aw
   apply Ar (i:=8);rfl;rfl;rfl
   · intro w9;refine Ac (A3 U (.no U) U (.tm U) U (.tm U) Z9 Df (fun _=>⟨by omega,BP _ (BU c hxV)⟩)) U ?_;exact Al [2,3,4,5,6,10,11,12,21,22] [800,6,722,721]
   apply Ar (i:=9);rfl;rfl;rfl
   · intro w9;refine Cu (C0 U U U (.tm U) U (.tm U) U (BP _ (BU c hxV)) Df U U U U) ?_;exact Al [2,3,4,5,6,10,11,12] [800,6,722]
   refine Dag.fin (k:=53) U ?_;refine Aa (Ad (A9 ?_));refine Ab ?_;refine Aa ?_
   repeat (with_reducible refine Av ?_)
   refine BF.next (x+1) ⟨by omega,Y⟩ (by omega) (Au rfl ⟨rfl,rfl,rfl,rfl,rfl,rfl,Y⟩ ⟨(by refine congrArg (fun r=>some (R.row 1 r)) ?_;first|(simp;exact Tc g c x)|(simp;done)),Y⟩)
 try simp at h12
 refine Bf (Af (Ab ?_));refine Ah ?_;refine Aa (Aq (Res.one U (.tmp U .nil) U ?_))
 rw [Td g c (by (simp [Ol] at h12;omega))];rfl
theorem Hi (g:AC) (a:AA) (ha:AJ a=true) (hg:AI g=true) (c xx y:Int) (hxx:0≤xx∧xx<g.Values.length) (hy:0≤y∧y<g.Values.length):FnT ZA 56 [.agg (AG g),.agg (AE a),.one (.sl 1 ((Fa g c).map Oi)),.one (.v (.int .i64 xx)),.one (.v (.int .i64 y))] (.a (.one (.v (.int .i64 (atI (Fv g a c y (AL g y)) (xx*(a.Accept.length:Int)+a.Start)))))):=by
 refine A8 Aas U (by kernel_rfl) Aat U fun hlen w0=>?_
 try simp [BC,AP,AG,AE] at hlen
 have hA:=AR ha
 have hP:=DC ha
 have hG:=CA hg
 have hN:1≤NP g a∧NP g a≤60:=La ha hg
 have hNP:NP g a=a.Accept.length*g.Values.length:=rfl
 have hnv:(a.Accept.length:Int)*(g.Values.length:Int)≤60∧0≤(a.Accept.length:Int)*(g.Values.length:Int):=⟨ZS (ZT (show (a.Accept.length:Int)≤12 by omega) (show (g.Values.length:Int)≤5 by omega) (by omega) (by omega)) (by omega),ZU (by omega) (by omega)⟩
 have hav:(Fa g c).length=g.Values.length:=by simp [Fa]
 have hvy:=CH hg hy
 have hnl:(CQ g a c).length=NP g a:=G7 g a c
 have htl:(CE (CQ g a c)).length=NP g a:=by rw [DU,hnl]
 have hnz:∀ p,p<(CQ g a c).length→(nxL (CQ g a c) p).length≤1536:=fun p hp=>by rw [G7] at hp;rw [H8 hp];exact Xb a hg c p
 have hgz:(EZ a y (AL g y)).length≤12:=by unfold EZ;rw [ZK];exact ZE (ZQ _ _) (by simp;omega)
 have htz:∀ p,p<(CE (CQ g a c)).length→(nxL (CE (CQ g a c)) p).length≤131072:=fun p hp=>by rw [DU] at hp;rw [GE hp];have:=Kv (nx:=nxL (CQ g a c)) (b:=1536) (N:=(CQ g a c).length) hnz p (CQ g a c).length (ZZ _);omega
 have hss:=FV (g:=g) ha hxx
 have hdl:=(PH ha hg c hy hvy.1).1
 have hgi:=CT (out:=Fv g a c y (AL g y)) (k:=xx*(a.Accept.length:Int)+a.Start) (by omega)
 refine Af (Ac (Bg U U U (.tm U) (ts:=_) (by rfl)) U ?_);refine Ac (Bg U U U (.tm U) (ts:=_) (by rfl)) U ?_;refine An ?_;refine Aa (Af (A7 Db ?_));refine Aj FU ?_;refine Bi (.t) Aau ?_;refine Ah ?_;refine Aa (Af (Ab ?_));refine A7 Ci ?_;refine Aj Cc ?_;refine Bi (.t) ZB ?_;refine Ac (Ge U (.no U) U (.tm U) (.tm U) (fun _=>by omega)) U ?_;refine A6 (Ho 28 U U U (.tm U) ZV U5 U U U U (by omega)) U ?_;refine Bv (Le.nilRow (id:=28) 1 U) ?_;refine Ah ?_;refine Aa (Ae (Ae (As (Ay [0,1,2,3,4,5,6,10,11,12] [28]) ?_)));refine Ad (Ab ?_);refine Bi (.t) Z9 ?_;refine Ac (Bh U (.no U) U (.const U)) U ?_
 refine Aa (AW.block (B9 (fun (x:Nat)=>(x≤g.Values.length)∧True) (fun (x:Nat)=>⟨_,[(31,(true,.a (.one (.t (.v (.int .i64 (x:Nat))))))),(12,(true,.a (.one (.rf 28)))),(3,_),(4,_),(5,_),(6,_),(10,_),(11,_),(29,_),(30,_)],[(28,.row 1 (nvR (nxC g a c) (NP g a) (x*a.Accept.length) []))]⟩) (fun (x:Nat)=>g.Values.length-x) (0) ⟨ZF _,Y⟩ (Au U ⟨U,U,U,U,U,U,U,U,U,U,Y⟩ ⟨(by (refine congrArg (fun r=>some (R.row 1 r)) ?_;first|(rw [←ZW,Aab,Aac];exact Rm _ _)|(simp;done))),Y⟩) ?_))
 rintro x ⟨hk,he⟩
 refine Af (AWl.lt ?_);refine Aa (Ae (Ai (.tm U) (fun h32=>?_) (fun h32=>?_)))
 · try simp at h32
   have hxV:x<g.Values.length:=by (first|omega|(simp at h32;omega))
   have hvx:=CH hg (x:=(x:Int)) (by omega)
   have hx1:(Fa g c)[x]?=some (CB g c x):=by (unfold Fa;exact CD _ (by omega))
   have hal:=JS hg c x
   refine Am (Ae (AW.block (Af (Ab ?_))));refine Ac (Ak U (.no U) U (.tm U) (.tm U) Z9 Df (fun _=>⟨by omega,(by exact Ao hx1)⟩)) U ?_;refine Aj Df ?_;refine Ah ?_;refine Ah ?_;refine Aa (Af (An ?_));refine Aa (AW.block (B9 (fun (s:Nat)=>(s≤a.Accept.length)∧True) (fun (s:Nat)=>⟨_,[(15,(true,.a (.one (.t (.v (.int .i64 (s:Nat))))))),(12,(true,.a (.one (.rf 28)))),(3,_),(4,_),(5,_),(6,_),(10,_),(11,_),(13,_),(14,_),(29,_),(30,_),(31,_)],[(28,.row 1 (nvR (nxC g a c) (NP g a) (x*a.Accept.length+s) []))]⟩) (fun (s:Nat)=>a.Accept.length-s) (0) ⟨ZF _,Y⟩ (Au U ⟨U,U,U,U,U,U,U,U,U,U,U,U,U,Y⟩ ⟨(by rfl),Y⟩) ?_))
   rintro s ⟨hk1,he1⟩
   refine Ae (Af (Ab ?_));refine Ab ?_;refine AWl.lt ?_;refine Aa (Ai (.tm U) (fun h38=>?_) (fun h38=>?_))
   · try simp at h38
     have hpi:((x:Int)*(a.Accept.length:Int)+(s:Int)).toNat=x*a.Accept.length+s:=by (rw [←ZW];omega)
     have hpl:x*a.Accept.length+s<NP g a:=SN (x:=x) (s:=s) (n:=a.Accept.length) (V:=g.Values.length) (by omega) (by omega)
     have hpb:(x:Int)*(a.Accept.length:Int)≤60∧0≤(x:Int)*(a.Accept.length:Int):=⟨ZS (ZT (show (x:Int)≤5 by omega) (show (a.Accept.length:Int)≤12 by omega) (by omega) (by omega)) (by omega),ZU (by omega) (by omega)⟩
     have hsp:=K3 ha (x:=s) (by omega)
     have hnx:nxC g a c (x*a.Accept.length+s)=(CB g c x).flatMap (E5 a s (AL g x)):=Yx g a c (by omega)
     refine Am (Ae (AW.block (Af (Ab ?_))));refine Bi (.t) ZC ?_;refine Ac (Bh U (.no U) U (.const U)) U ?_;refine Aa (AW.block (B9 (fun (j:Nat)=>(j≤(CB g c x).length)∧True) (fun (j:Nat)=>⟨_,[(43,(true,.a (.one (.t (.v (.int .i64 (j:Nat))))))),(12,(true,.a (.one (.rf 28)))),(3,_),(4,_),(5,_),(6,_),(10,_),(11,_),(13,_),(14,_),(15,_),(29,_),(30,_),(31,_),(41,_),(42,_)],[(28,.row 1 (nvR (nxC g a c) (NP g a) (x*a.Accept.length+s) (((CB g c x).take j).flatMap (E5 a s (AL g x)))))]⟩) (fun (j:Nat)=>(CB g c x).length-j) (0) ⟨ZF _,Y⟩ (Au U ⟨U,U,U,U,U,U,U,U,U,U,U,U,U,U,U,U,Y⟩ ⟨(by rfl),Y⟩) ?_))
     rintro j ⟨hk2,he2⟩
     refine Af (AWl.lt ?_);refine Aa (Ae (Ai (.tm U) (fun h44=>?_) (fun h44=>?_)))
     · try simp at h44
       obtain⟨y',hy'⟩:∃ ξ,(CB g c x)[j]?=some ξ:=⟨_,ZI (by omega)⟩
       have hyo:=DO hg (List.mem_filter.1 (ZM hy')).1
       have haft:FnT ZA 114 [.agg (AE a),.one (.v (.int .i64 ((2^s:Nat):Int))),.one (.v (.int .i64 (AL g x))),.one (.v (.int .i64 y'.letter))] (.a (.one (.v (.int .i64 (Gw a s (AL g x) y'.letter:Nat))))):=by (have:=Pr a ha (2^s) (Nat.pow_lt_pow_right (by omega) (by omega)) (AL g x) y'.letter hvx.2 (by omega);rwa [Wl a (AL g x) y'.letter (by omega)] at this)
       have hafl:=I5 ha (s:=(s:Int)) (v:=AL g x) (k:=y'.letter) hvx.2 (by omega) (by omega)
       have hbl:=Jt (Gw a s (AL g x) y'.letter)
       have hbe:=JR (Gw a s (AL g x) y'.letter)
       have hyb:y'.to*(a.Accept.length:Int)≤60∧0≤y'.to*(a.Accept.length:Int):=⟨ZS (ZT (show y'.to≤5 by omega) (show (a.Accept.length:Int)≤12 by omega) (by omega) (by omega)) (by omega),ZU (by omega) (by omega)⟩
       have hfl:(((CB g c x).take j).flatMap (E5 a s (AL g x))).length≤24*64:=ZE (Gb (b:=64) (fun y=>by rw [Fm];exact Ls _) _) (ZR _ (by simp;omega))
       refine Am (Ae (AW.block (Af (Ac (Ak U (.no U) U (.tm U) (.tm U) ZC D5 (fun _=>⟨by omega,(by exact Ao hy')⟩)) U ?_))));refine Aj D5 ?_;refine A6 (Bd 17 U U U Jk U U U) U ?_;refine A4 D5 ?_;refine Aa (Ae (Bx 14 (DM [[],[],[1],[],[3],[],[3,4,5],[3,4,5,6],[],[8],[0,1,2,3,4,5,6,7,8,9],[0,1,2,3,4,5,6,7,8,9,10],[0,1,2,3,4,5,6,7,8,9,10,11],[]]) (by kernel_rfl) (by kernel_rfl) (by kernel_rfl) ?_));refine A5 B6 ?_;refine Az ?_;refine AB.s (fun _ hs=>F9 U (.no U) (Ag hs U) (.const U) (hs.tm U) (fun _=>by omega)) ?_;refine Bz Ci ?_;refine A5 Cc ?_;refine Az ?_;refine AB.s (fun _ hs=>(by exact Ak U (.no U) (Ag hs U) (hs.tm U) (hs.tm U) ZB ty3 (fun _=>⟨by omega,(by exact Ao hvx.1)⟩))) ?_;refine A5 ty3 ?_;refine AB.s (fun _ hs=>(by exact Bj U (.no U) (Ag hs U) (hs.tm U) TN)) ?_
       refine AB.s (fun _ hs=>(by exact Be U (.no U) (Ag hs U) (hs.tm U) (hs.res _ _ U) ty3 U U)) ?_;refine AB.s (fun _ hs=>Bc (FnT.fr (haft)) U (.no U) (Ag hs U) (.cons (hs.tm U) (AD hs U) (.cons (hs.tm U) (AD hs U) (.cons (hs.tm U) (AD hs U) (.cons (hs.tm U) (AD hs U) .nil))))) ?_;refine AB.s (fun _ hs=>Bc (FnT.fr (Ga (Gw a s (AL g x) y'.letter) (by omega))) U (.no U) (Ag hs U) (.cons (hs.tm U) (AD hs U) .nil)) ?_;refine AB.s (fun _ hs=>(by exact Di U (.no U) (Ag hs U) (hs.tm U) (by exact .t) ZB)) ?_;refine AB.s (fun _ hs=>Bh U (.no U) (Ag hs U) (.const U)) ?_;refine Bs U U ?_
       refine Aa (AW.block (B9 (fun (u:Nat)=>(u≤(En (Gw a s (AL g x) y'.letter)).length)∧True) (fun (u:Nat)=>⟨_,[(60,(true,.a (.one (.t (.v (.int .i64 (u:Nat))))))),(12,(true,.a (.one (.rf 28)))),(3,_),(4,_),(5,_),(6,_),(10,_),(11,_),(13,_),(14,_),(15,_),(17,_),(29,_),(30,_),(31,_),(41,_),(42,_),(43,_),(58,_),(59,_)],[(28,.row 1 (nvR (nxC g a c) (NP g a) (x*a.Accept.length+s) (((CB g c x).take j).flatMap (E5 a s (AL g x))++(E5 a s (AL g x) y').take u))),(17,.box [.t (.v (.int .i64 y'.step.Edge)),.t (.v (.bool y'.step.Inverse)),.t (.v (.int .i64 y'.letter)),.t (.v (.int .i64 y'.to))])]⟩) (fun (u:Nat)=>(En (Gw a s (AL g x) y'.letter)).length-u) (0) ⟨ZF _,Y⟩ (Au U ⟨U,U,U,U,U,U,U,U,U,U,U,U,U,U,U,U,U,U,U,U,Y⟩ ⟨(by (refine congrArg (fun r=>some (R.row 1 r)) ?_;first|(rw [←ZW,Aab,Aac];exact Rm _ _)|(simp;done))),U,Y⟩) ?_))
       rintro u ⟨hk3,he3⟩
       refine Af (AWl.lt ?_);refine Aa (Ae (Ai (.tm U) (fun h61=>?_) (fun h61=>?_)))
       · try simp at h61
         obtain⟨z,hz⟩:∃ ξ,(En (Gw a s (AL g x) y'.letter))[u]?=some ξ:=⟨_,ZI (by omega)⟩
         obtain⟨t,rfl,ht⟩:=Ju hz
         have htn:=ES hafl (ZM ht)
         have hvn:=UR (s:=(s:Int)) (v:=AL g x) ht
         have hll3:((E5 a s (AL g x) y').take u).length≤64:=by (have:=Fm a s (AL g x) y';rw [Aad];omega)
         have hll:(((CB g c x).take j).flatMap (E5 a s (AL g x))++(E5 a s (AL g x) y').take u).length≤2000:=by (have:=Fm a s (AL g x) y';rw [ZL,Aad];omega)
         refine Am (Ae (AW.block (Af (Ac (Ak U (.no U) U (.tm U) (.tm U) ZB ty3 (fun _=>⟨by omega,(by exact Ao hz)⟩)) U ?_))));refine Aj ty3 ?_;refine Ah ?_;refine Aa (As (σ':=⟨_,[(3,_),(4,_),(5,_),(6,_),(10,_),(11,_),(12,_),(13,_),(14,_),(15,_),(17,_),(19,_),(29,_),(30,_),(31,_),(41,_),(42,_),(43,_),(58,_),(59,_),(60,_)],[(28,.row 1 (nvR (nxC g a c) (NP g a) (x*a.Accept.length+s) (((CB g c x).take j).flatMap (E5 a s (AL g x))++(E5 a s (AL g x) y').take u))),(17,.box [.t (.v (.int .i64 y'.step.Edge)),.t (.v (.bool y'.step.Inverse)),.t (.v (.int .i64 y'.letter)),.t (.v (.int .i64 y'.to))])]⟩) Aw ?_);refine AW.takeR (id:=28) (i:=((x:Int)*(a.Accept.length:Int)+(s:Int)).toNat) (p:=0) 721 722 U (by rw [hpi];exact Jf _ hpl) U (fun _=>rfl) (fun _=>rfl) fun c77=>?_
         refine AW.drawA 21 (DM [[],[],[],[1,2],[],[1,2,3,4],[],[],[],[7,8],[],[7,8,9,10],[6,7,8,9,10,11],[6,7,8,9,10,11,12],[],[14],[],[14,15,16],[],[14,15,16,17,18],[14,15,16,17,18,19],[6,7,8,9,10,11,12,13,14,15,16,17,18,19,20]]) 721 85 (.row 1 ((((CB g c x).take j).flatMap (E5 a s (AL g x))++(E5 a s (AL g x) y').take u).map AQ++[AQ (y'.to*(a.Accept.length:Int)+(t:Int))])) (true,.a (.one (.rf 721))) ⟨_,[(3,_),(4,_),(5,_),(6,_),(10,_),(11,_),(12,_),(13,_),(14,_),(15,_),(17,_),(19,_),(29,_),(30,_),(31,_),(41,_),(42,_),(43,_),(58,_),(59,_),(60,_)],[(28,_),(17,_)]⟩ (by kernel_rfl) (by kernel_rfl) (by kernel_rfl) Ba Ba U U ?_;refine Dm ?_;refine Dm ?_;refine Dm ?_;refine BX.s (fun _ hs=>Ge U (.no U) (Ag hs U) (hs.tm U) (hs.tm U) (fun _=>by omega)) ?_;refine Dm ?_;refine BX.s (fun _ hs=>Dn U (.no U) (Ag hs U) (hs.tm U) (hs.tm U) (fun _=>by omega)) ?_
         refine Dm ?_;refine Dm ?_;refine Dm ?_;refine BX.s (fun _ hs=>Ge U (.no U) (Ag hs U) (hs.tm U) (hs.tm U) (fun _=>by omega)) ?_;refine Dm ?_;refine BX.s (fun _ hs=>Dn U (.no U) (Ag hs U) (hs.tm U) (hs.tm U) (fun _=>by omega)) ?_;refine BX.s (fun _ hs=>(by exact A3 U (.no U) (Ag hs U) (hs.tm U) (hs.res _ _ U) (hs.tm U) ZV Cc (fun _=>⟨by omega,BP _ (by rw [hpi];exact Jf _ hpl)⟩))) ?_;refine BX.s (fun _ hs=>(by exact Ca U (.no U) (Ag hs U) (hs.tm U) (hs.res _ _ U) (BP _ (by rw [hpi];exact Jf _ hpl)) Cc U U)) ?_;refine BX.s (fun _ hs=>(by exact Bj U (.no U) (Ag hs U) (hs.tm U) Ql)) ?_;refine BX.s (fun _ hs=>(by exact Be U (.no U) (Ag hs U) (hs.tm U) (hs.res _ _ U) ty3 U U)) ?_;refine Dm ?_;refine BX.s (fun _ hs=>Ge U (.no U) (Ag hs U) (hs.tm U) (hs.tm U) (fun _=>by omega)) ?_;refine Dm ?_
         refine BX.s (fun _ hs=>Dn U (.no U) (Ag hs U) (hs.tm U) (hs.tm U) (fun _=>by omega)) ?_;refine BX.s (fun _ hs=>Cf (xs:=[.tmp 83]) (rows:=[AQ (y'.to*(a.Accept.length:Int)+(t:Int))]) U U (Ag hs U) (.cons (hs.tm U) U U .nil) ZB in3 U U (U)) ?_;refine BX.fin U (UO.mk U U (fun σ' hs=>Hq (id:=721) (hid:=722) U U (Ag hs U) (hs.tm U) (hs.res _ _ U) (hs.res _ _ U) (hs.tm U) (by exact .t) (by rfl) ZB in3 U (by (simp only [ZK,ZL,Aae,Aaf,AH];omega)) (by (unfold maxLen;simp only [ZK,ZL,Aae,Aaf,AH];omega))) U ?_);refine Bv (Ay [3,4,5,6,10,11,12,13,14,15,17,19,29,30,31,41,42,43,58,59,60,64,69,85] [28,17,721]) ?_
         refine Ac (by exact A3 U (.no U) U (.tm U) U (.tm U) ZV Cc (fun _=>⟨by omega,BP _ (by rw [hpi];exact Jf _ hpl)⟩)) U ?_;refine Cu (C0 U U U (.tm U) U (.tm U) U (BP _ (by rw [hpi];exact Jf _ hpl)) Cc U U U U) ?_;refine Aa (Ad (A9 ?_));refine Ab ?_;refine Aa ?_
         repeat (with_reducible refine Av ?_)
         refine BF.next (u+1) ⟨by omega,Y⟩ (by omega) (Au rfl ⟨rfl,rfl,rfl,rfl,rfl,rfl,rfl,rfl,rfl,rfl,rfl,rfl,rfl,rfl,rfl,rfl,rfl,rfl,rfl,rfl,Y⟩ ⟨(by refine congrArg (fun r=>some (R.row 1 r)) ?_;first|(simp only [ZN];rw [hpi];refine (MT _ _).trans ?_;rw [CO hvn,ZO];done)|(rw [Fg _ hy',ZD (l:=E5 a s (AL g x) y') (by rw [Fm];omega)];done)|(rw [ZD (by omega),←hnx];exact Ld _ _ _)|(rw [ZH,show s=a.Accept.length by omega];done)),(by rfl),Y⟩)
       try simp at h61
       refine Bf (Ad (A9 ?_));refine Ab ?_;refine Aa ?_
       repeat (with_reducible refine Av ?_)
       refine BF.next (j+1) ⟨by omega,Y⟩ (by omega) (Au rfl ⟨rfl,rfl,rfl,rfl,rfl,rfl,rfl,rfl,rfl,rfl,rfl,rfl,rfl,rfl,rfl,rfl,Y⟩ ⟨(by refine congrArg (fun r=>some (R.row 1 r)) ?_;first|(simp only [ZN];rw [hpi];refine (MT _ _).trans ?_;rw [CO hvn,ZO];done)|(rw [Fg _ hy',ZD (l:=E5 a s (AL g x) y') (by rw [Fm];omega)];done)|(rw [ZD (by omega),←hnx];exact Ld _ _ _)|(rw [ZH,show s=a.Accept.length by omega];done)),Y⟩)
     try simp at h44
     refine Bf (Ad (Ab ?_));refine A9 ?_;refine Ah ?_;refine Aa ?_
     repeat (with_reducible refine Av ?_)
     refine BF.next (s+1) ⟨by omega,Y⟩ (by omega) (Au rfl ⟨rfl,rfl,rfl,rfl,rfl,rfl,rfl,rfl,rfl,rfl,rfl,rfl,rfl,Y⟩ ⟨(by refine congrArg (fun r=>some (R.row 1 r)) ?_;first|(simp only [ZN];rw [hpi];refine (MT _ _).trans ?_;rw [CO hvn,ZO];done)|(rw [Fg _ hy',ZD (l:=E5 a s (AL g x) y') (by rw [Fm];omega)];done)|(rw [ZD (by omega),←hnx];exact Ld _ _ _)|(rw [ZH,show s=a.Accept.length by omega];done)),Y⟩)
   try simp at h38
   refine Bf (Ad (A9 ?_));refine Ab ?_;refine Aa ?_
   repeat (with_reducible refine Av ?_)
   refine BF.next (x+1) ⟨by omega,Y⟩ (by omega) (Au rfl ⟨rfl,rfl,rfl,rfl,rfl,rfl,rfl,rfl,rfl,rfl,Y⟩ ⟨(by refine congrArg (fun r=>some (R.row 1 r)) ?_;first|(simp only [ZN];rw [hpi];refine (MT _ _).trans ?_;rw [CO hvn,ZO];done)|(rw [Fg _ hy',ZD (l:=E5 a s (AL g x) y') (by rw [Fm];omega)];done)|(rw [ZD (by omega),←hnx];exact Ld _ _ _)|(rw [ZH,show s=a.Accept.length by omega];done)),Y⟩)
 try simp at h32
 refine Bf (Ae (As (σ':=⟨_,[(3,_),(4,_),(5,_),(6,_),(10,_),(11,_),(12,_),(29,_),(30,_),(31,_)],[(28,.row 1 ((CQ g a c).map DV))]⟩) (Au U ⟨U,U,U,U,U,U,U,U,U,U,Y⟩ ⟨by rw [Xc (nxC g a c) (by rw [hNP,Nat.mul_comm];exact ZR _ (by omega))];rfl,Y⟩) ?_));refine Bx 16 (DM [[],[0],[],[],[],[0,1,2,3,4],[0,1,2,3,4,5],[],[],[7,8],[],[10],[7,8,9,10,11],[0,1,2,3,4,5,6,7,8,9,10,11,12],[0,1,2,3,4,5,6,7,8,9,10,11,12,13],[0,1,2,3,4,5,6,7,8,9,10,11,12,13,14]]) (by kernel_rfl) (by kernel_rfl) (by kernel_rfl) ?_;refine Az ?_;refine AB.s (fun _ hs=>Bc (FnT.fr (SJ (CQ g a c) (by omega) (NH ha hg c) (fun p hp=>ZE (hnz p hp) (by omega)))) U (.no U) (Ag hs U) (.cons (hs.tm U) (AD hs U) .nil)) ?_;refine A5 B7 ?_;refine A5 B6 ?_;refine Az ?_
 refine AB.s (fun _ hs=>Bc (FnT.fr (U7 g a ha hg y (AL g y) hy.1 hvy.1)) U (.no U) (Ag hs U) (.cons (hs.tm U) (AD hs U) (.cons (hs.tm U) (AD hs U) (.cons (hs.tm U) (AD hs U) .nil)))) ?_;refine AB.s (fun _ hs=>Bc (FnT.fr (SK (CE (CQ g a c)) (EZ a y (AL g y)) (by omega) (fun p hp k hk=>by rw [DU] at hp ⊢;exact GD p hp k hk) htz (by rw [htl];exact G8 ha hy) (by omega))) U (.no U) (Ag hs U) (.cons (hs.tm U) (AD hs U) (.cons (hs.tm U) (AD hs U) .nil))) ?_;refine Az ?_;refine Az ?_;refine AB.s (fun _ hs=>Ge U (.no U) (Ag hs U) (hs.tm U) (hs.tm U) (fun _=>by omega)) ?_;refine Bz Jn ?_;refine A5 ty3 ?_;refine AB.s (fun _ hs=>Dn U (.no U) (Ag hs U) (hs.tm U) (hs.tm U) (fun _=>by omega)) ?_
 refine AB.s (fun _ hs=>(Ak U (.no U) (Ag hs U) (hs.tm U) (hs.tm U) ZB ty3 (fun _=>⟨by omega,(by exact Ao hgi)⟩))) ?_;refine A5 ty3 ?_;refine AB.s (fun _ hs=>Cl U (.no U) (Ag hs U) (hs.tm U)) ?_;refine Bs U U ?_;refine Aa (Aq (Res.one U (.tmp U .nil) U ?_))
 rfl
theorem DS (g:AC) (a:AA) (c:Int):FnT ZA 22 [.agg (AG g),.agg (AE a),.one (.v (.int .i64 c))] (.a (.one (.sl 2 ((CN g a c).map BC)))):=by
 refine A8 Aav U (by kernel_rfl) Aaw U fun hlen w0=>?_
 try simp [BC,AP,AG,AE] at hlen
 skip
 refine Af (Ac (Bg U U U (.tm U) (ts:=_) (by rfl)) U ?_);refine Ac (Bg U U U (.tm U) (ts:=_) (by rfl)) U ?_;refine An ?_;refine Ch (i:=6) 20001 2 U U ?_;refine Aa (Ae (Af (Aj B7 ?_)));refine Aj B6 ?_;refine By (NV g a) ?_;refine Cy ?_;refine Ab ?_;refine AWl.mw ?_;refine Ac (Bc (FnT.fr (CR c 0 4)) U (by exact .not1 U U U U) U (.cons (.tmp U (by exact id)) U (.cons (.const U) U (.cons (.const U) U .nil)))) U ?_;refine Ac (Du U (by exact .not1 U U U U) U (.tmp U (by exact id))) U ?_;refine Co ?_;refine Aa (Ai (.tm U) (fun h19=>?_) (fun h19=>?_))
 · try simp at h19
   refine Ae (As (Ay [0,1,2,3,4,6] [20001]) ?_);refine Ad (An ?_);refine Ch (i:=6) 20002 2 U U ?_;refine Aa (Aq (Res.one U (.tmp U .nil) U ?_))
   unfold CN;rw [if_neg (by cases hq1:EA g a<;>cases hq2:inB c 0 4<;>simp_all)];rfl
 try simp at h19
 have hcc:(EA g a&&inB c 0 4)=true:=by (cases hq1:EA g a<;>cases hq2:inB c 0 4<;>simp_all)
 have hgc:EA g a=true:=by (simp only [Bool.and_eq_true] at hcc;exact hcc.1)
 obtain⟨hg,ha⟩:=JK hgc
 have hG:=CA hg
 refine Am (Ae (As (Ay [0,1,2,3,4,6] [20001]) ?_));refine Ad (Aj B7 ?_);refine Ab ?_;refine By (IG g hg c) ?_;refine Ah ?_;refine Aa (Af (A6 (C7 23 U U U ZX Dq U) U ?_));refine Ah ?_;refine Aa (Ae (Af (A7 Ci ?_)));refine Aj Cc ?_;refine Bi (.t) ZB ?_;refine Ac (Bh U (.no U) U (.const U)) U ?_;refine Aa (AW.block (B9 (fun (x:Nat)=>(x≤g.Values.length)∧True) (fun (x:Nat)=>⟨_,[(27,(true,.a (.one (.t (.v (.int .i64 (x:Nat))))))),(8,(true,.a (.one (.rf 23)))),(3,_),(4,_),(6,_),(7,_),(26,_)],[(23,.row 2 ((EJ g a c x).map BC))]⟩) (fun (x:Nat)=>g.Values.length-x) (0) ⟨ZF _,Y⟩ (Au U ⟨U,U,U,U,U,U,U,Y⟩ ⟨(by refine congrArg (fun r=>some (R.row 2 r)) ?_;first|rfl|(simp [EJ];done)|(simp [Ei];done)),Y⟩) ?_))
 rintro x ⟨hk,he⟩
 refine Af (AWl.lt ?_);refine Aa (Ae (Ai (.tm U) (fun h28=>?_) (fun h28=>?_)))
 · try simp at h28
   have hxV:x<g.Values.length:=by omega
   have htl:=KD g a c x
   have hxm:x*g.Values.length≤5*5:=Nat.mul_le_mul (by omega) (by omega)
   refine Am (Ae (AW.block (Af (Ab ?_))));refine Ah ?_;refine Aa (Af (A7 Ci ?_));refine Aj Cc ?_;refine Bi (.t) ZB ?_;refine Ac (Bh U (.no U) U (.const U)) U ?_;refine Aa (AW.block (B9 (fun (k:Nat)=>(k≤g.Values.length)∧True) (fun (k:Nat)=>⟨_,[(33,(true,.a (.one (.t (.v (.int .i64 (k:Nat))))))),(8,(true,.a (.one (.rf 23)))),(3,_),(4,_),(6,_),(7,_),(9,_),(26,_),(27,_),(32,_)],[(23,.row 2 ((EJ g a c x++Ei g a c x k).map BC))]⟩) (fun (k:Nat)=>g.Values.length-k) (0) ⟨ZF _,Y⟩ (Au U ⟨U,U,U,U,U,U,U,U,U,U,Y⟩ ⟨(by refine congrArg (fun r=>some (R.row 2 r)) ?_;first|rfl|(simp [EJ];done)|(simp [Ei];done)),Y⟩) ?_))
   rintro k ⟨hk1,he1⟩
   refine Af (AWl.lt ?_);refine Aa (Ae (Ai (.tm U) (fun h34=>?_) (fun h34=>?_)))
   · try simp at h34
     have hrl:=M3 g a c x k
     refine Am (Ae (AW.block (Af (Ab ?_))));refine Ah ?_;refine Aa (Af (Aj B7 ?_));refine Aj B6 ?_;refine Ab ?_;refine Ab ?_;refine Ab ?_;refine Ac (Bc (FnT.fr (Hi g a ha hg c (x:Int) (k:Int) (by omega) (by omega))) U (.no U) U (.cons (.tm U) U (.cons (.tm U) U (.cons (.tm U) U (.cons (.tm U) U (.cons (.tm U) U .nil)))))) U ?_;refine AWl.gd ?_;refine Aa (Ai (.tm U) (fun h42=>?_) (fun h42=>?_))
     · try simp at h42
       have hb:IH g a c x k=true:=by (unfold IH;simpa using h42)
       refine As (Ay [3,4,6,7,8,9,10,26,27,32,33] [23]) ?_;refine Ad (Ab ?_);refine Ab ?_;refine Ab ?_;refine Ac (Bm (ps:=[(0,.tmp 44),(1,.tmp 45)]) U U U NS U U Yu (.cons (.tm U) U U SS (.cons (.tm U) U U SR .nil)) U) U ?_;refine Bp (Ce (xs:=[.tmp 46]) 47 U U U (.cons (.tm U) U U .nil) ZX NS U U U U) U ?_;refine Bt (B8 U U U (.tm U) U (.tm U) (by exact .rf U) (by rfl) ZX NS U (by (simp [AH];omega)) (by (unfold maxLen;simp [AH];omega))) U ?_;refine Bv (Ay [3,4,6,7,8,9,10,26,27,32,33,48] [23,47]) ?_;refine Ah ?_;refine Aa (Ad (A9 ?_));refine Ab ?_;refine Aa ?_
       repeat (with_reducible refine Av ?_)
       refine BF.next (k+1) ⟨by omega,Y⟩ (by omega) (Au rfl ⟨rfl,rfl,rfl,rfl,rfl,rfl,rfl,rfl,rfl,rfl,Y⟩ ⟨(by refine congrArg (fun r=>some (R.row 2 r)) ?_;first|(rw [ER,hb];simp [AH,BC];done)|(rw [ER,hb];simp;done)|(rw [Gd,show k=g.Values.length by omega];done)|(simp [Ei];done)),Y⟩)
     try simp at h42
     have hb:IH g a c x k=false:=by (unfold IH;simpa using h42)
     refine Am (As (Ay [3,4,6,7,8,9,10,26,27,32,33] [23]) ?_);refine Ad (A9 ?_);refine Ab ?_;refine Aa ?_
     repeat (with_reducible refine Av ?_)
     refine BF.next (k+1) ⟨by omega,Y⟩ (by omega) (Au rfl ⟨rfl,rfl,rfl,rfl,rfl,rfl,rfl,rfl,rfl,rfl,Y⟩ ⟨(by refine congrArg (fun r=>some (R.row 2 r)) ?_;first|(rw [ER,hb];simp [AH,BC];done)|(rw [ER,hb];simp;done)|(rw [Gd,show k=g.Values.length by omega];done)|(simp [Ei];done)),Y⟩)
   try simp at h34
   refine Bf (Ad (A9 ?_));refine Ab ?_;refine Aa ?_
   repeat (with_reducible refine Av ?_)
   refine BF.next (x+1) ⟨by omega,Y⟩ (by omega) (Au rfl ⟨rfl,rfl,rfl,rfl,rfl,rfl,rfl,Y⟩ ⟨(by refine congrArg (fun r=>some (R.row 2 r)) ?_;first|(rw [ER,hb];simp [AH,BC];done)|(rw [ER,hb];simp;done)|(rw [Gd,show k=g.Values.length by omega];done)|(simp [Ei];done)),Y⟩)
 try simp at h28
 refine Bf (Af (Ab ?_));refine Ah ?_;refine Aa (Aq (Res.one U (.tmp U .nil) U ?_))
 unfold CN;rw [if_pos hcc,show x=g.Values.length by omega];rfl
end Go.Q
