import Derived.Test.YtdhojcaoljhbiaaGreatB142xc
set_option linter.unusedVariables false
set_option linter.unusedSimpArgs false
set_option maxHeartbeats 1000000
set_option maxRecDepth 100000
open Go.Proofs.Tryz renaming underlying92->Z9,prog->ZC,underlying40->ZD,underlying33->ZF,underlying52->ZI,func120->ZP,ntmps120->ZQ,underlying43->ZR,underlying34->ZS,func60->ZT,ntmps60->ZU,func59->ZV,ntmps59->ZW,func24->ZX,ntmps24->ZY,underlying48->ZZ
open Int renaming toNat_natCast->ZA,natCast_nonneg->ZG
open Nat renaming zero_le->ZB,two_pow_pos->ZL,le_trans->ZN
open List renaming getElem?_eq_getElem->ZE,mem_of_getElem?->ZH,append_assoc->ZJ,range->ZK,length_append->ZM,any_eq_true->ZO
namespace Go.Q
open Go.D Go.Proofs.YtdhojcaoljhbiaaGreat
theorem WL (e:TNd) (u:Int) (m:Nat):(decide (e.node=u)&&decide ((e.set:Int)=(m:Int)))=Mr u m e:=by
 unfold Mr
 congr 1
 exact decide_eq_decide.2 (by omega)
theorem RP {α:Type} {p:α→Bool} {l:List α} {j:Nat} {x:α} (h:l[j]?=some x):(l.take (j+1)).any p=((l.take j).any p||p x):=by
 rw [CO h,List.any_append];simp
open Go.RowKit
theorem Mn (g:AC) (a:AA) (ha:AJ a=true) (hg:AI g=true) (nd:Int) (hnd:0≤nd∧nd<g.Values.length) (S0:Nat) (hS:S0<2^a.Accept.length) (y:DB) (hya:y∈AV g nd):FnT ZC 120 [.agg (AG g),.agg (AE a),.one (.v (.int .i64 nd)),.one (.v (.int .i64 (S0:Int))),.agg (BG y.step)] (.tup [.one (.v (.int .i64 y.to)),.one (.v (.int .i64 ((DX a S0 (AL g nd) y.letter:Nat):Int)))]):=by
 obtain⟨j0,hy⟩:=List.getElem?_of_mem hya
 refine A8 ZP U (by kernel_rfl) ZQ U fun hlen w0=>?_
 try simp [BC,AP,AG,BG,AE] at hlen
 have hA:=AR ha
 have hG:=CA hg
 have hP:=DC ha
 have hvx:=CH hg hnd
 have hyo:=JT hg hy
 obtain⟨k1,e,hed,hy1,hy2,hy3⟩:=Jw hg hy
 have hE:=Hc hg hed
 have hix:CG g y.step.Edge=(k1:Int):=by rw [hy1];exact EO hg hed
 have hlet:FnT ZC 167 [.agg (AP e),.one (.v (.bool y.step.Inverse))] (.a (.one (.v (.int .i64 y.letter)))):=by (rw [hy2];exact Ke e _ (by omega))
 have hto:FnT ZC 168 [.agg (AP e),.one (.v (.bool y.step.Inverse))] (.a (.one (.v (.int .i64 y.to)))):=by (rw [hy3];exact OV e _)
 refine Af (Ac (Bg U U U (.tm U) (ts:=_) (by rfl)) U ?_);refine Ac (Bg U U U (.tm U) (ts:=_) (by rfl)) U ?_;refine Ac (Bg U U U (.tm U) (ts:=_) (by rfl)) U ?_;refine An ?_;refine An ?_;refine Aa (Ae (Bx 9 (DM [[],[0],[],[],[3],[2,3,4],[0,1,2,3,4,5],[0,1,2,3,4,5,6],[]]) (by kernel_rfl) (by kernel_rfl) (by kernel_rfl) ?_));refine Bz Ct ?_;refine A5 D0 ?_;refine A5 B7 ?_;refine Bz Io ?_;refine A5 ty3 ?_;refine AB.s (fun _ hs=>Bc (FnT.fr (Ht _ _)) U (.no U) (Ag hs U) (.cons (hs.tm U) (AD hs U) (.cons (hs.tm U) (AD hs U) .nil))) ?_;refine AB.s (fun _ hs=>(by exact Ak U (.no U) (Ag hs U) (hs.tm U) (hs.tm U) ZR Cq (fun _=>⟨by omega,Ao (l:=g.Edges) (x:=e) (by rw [hix];exact hed)⟩))) ?_;refine A5 Cq ?_;refine Dr U U U (Loc.of1 U fun σ' hs hf=>Bd 12 U U (Ag hs U) HF U U hf) ?_;refine Bs U U ?_;refine A4 Cq ?_
 refine Aa (Ae (As (Ay [0,1,2,3,4,5,6,9,10,11,12] [12]) ?_));refine Ad (An ?_);refine Aa (Ae (Af (An ?_)));refine Aa (AW.block (Cp (fun (q:Nat) (o:Nat)=>(q≤a.Accept.length∧o<2^a.Accept.length)∧o=((ZK q).filter S0.testBit).foldl (fun out (s:Nat)=>FJ a y.letter (DA (BS a s (AL g nd))) out) 0) (fun (q:Nat) (o:Nat)=>⟨_,[(14,(true,.a (.one (.t (.v (.int .i64 (q:Nat))))))),(13,(true,.a (.one (.t (.v (.int .i64 (o:Nat))))))),(2,_),(3,_),(5,_),(6,_),(9,_),(10,_),(11,_),(12,_)],[(12,.box [.t (.v (.int .i64 e.ID)),.t (.v (.int .i64 e.From)),.t (.v (.int .i64 e.To)),.t (.v (.int .i64 e.Label))])]⟩) (fun (q:Nat) (o:Nat)=>a.Accept.length-q) (0) (0) ⟨⟨ZB _,ZL _⟩,U⟩ Aw ?_))
 rintro q o ⟨hk,he⟩
 refine Ae (Af (Ab ?_));refine A7 Db ?_;refine Aj FU ?_;refine Bi (.t) ZF ?_;refine AWl.lt ?_;refine Aa (Ai (.tm U) (fun h30=>?_) (fun h30=>?_))
 · try simp only [BE,AN,AM] at h30
   try simp only [ZA] at h30
   try simp at h30
   have hqn:q<a.Accept.length:=by omega
   have hcl:=Fh ha (s:=(q:Int)) hvx.2 (by omega)
   refine Am (Ae (AW.block (Ae (Af (Ab ?_)))));refine Ab ?_;refine Ac (J3 U (.no U) U (.tm U) (.tm U) (fun _=>by omega)) U ?_;refine Ac (Hz U (.no U) U (.tm U) (.const U) (fun _=>by first|exact ZG _|omega)) U ?_;refine Bw ?_;refine Aa (Ai (.tm U) (fun h37=>?_) (fun h37=>?_))
   · try simp only [BE,AN,AM] at h37
     try simp only [ZA] at h37
     try simp at h37
     have hb0:S0.testBit q=false:=by simpa using h37
     refine Bf (As (Ay [2,3,5,6,9,10,11,12,13,14] [12]) ?_);refine Ad (Ab ?_);refine A9 ?_;refine Ah ?_;refine Aa ?_
     repeat (with_reducible refine Av ?_)
     refine BV.next (q+1) (o) ⟨⟨by omega,hk.2⟩,(by rw [AY,hb0];simpa using he)⟩ (by omega) (Au rfl ⟨rfl,rfl,rfl,rfl,rfl,rfl,rfl,rfl,rfl,rfl,Y⟩ ⟨(by rfl),Y⟩)
   try simp only [BE,AN,AM] at h37
   try simp only [ZA] at h37
   try simp at h37
   have hb1:S0.testBit q=true:=by simpa using h37
   refine Am (Ae (As (Ay [2,3,5,6,9,10,11,12,13,14] [12]) ?_));refine Bx 9 (DM [[],[],[],[2],[],[2,3,4],[2,3,4,5],[0,1,2,3,4,5,6],[0,1,2,3,4,5,6,7]]) (by kernel_rfl) (by kernel_rfl) (by kernel_rfl) ?_;refine A5 B6 ?_;refine Az ?_;refine Bz Ci ?_;refine A5 Cc ?_;refine Az ?_;refine AB.s (fun _ hs=>(Ak U (.no U) (Ag hs U) (hs.tm U) (hs.tm U) ZD ty3 (fun _=>⟨by omega,(by exact Ao hvx.1)⟩))) ?_;refine A5 ty3 ?_;refine AB.s (fun _ hs=>Bc (FnT.fr (GJ a ha (q:Int) (AL g nd) ⟨by omega,by omega⟩ hvx.2)) U (.no U) (Ag hs U) (.cons (hs.tm U) (AD hs U) (.cons (hs.tm U) (AD hs U) (.cons (hs.tm U) (AD hs U) .nil)))) ?_;refine AB.s (fun _ hs=>Cl U (.no U) (Ag hs U) (hs.tm U)) ?_;refine Bs U U ?_;refine Aa (Ae (As (Ay [2,3,5,6,9,10,11,12,13,14,15] [12]) ?_));refine Ad (An ?_)
   refine Aa (AW.block (Cp (fun (r:Nat) (p:Nat)=>(r≤a.Accept.length∧p<2^a.Accept.length)∧p=FJ a y.letter ((ZK r).filter (BS a q (AL g nd)).testBit) o) (fun (r:Nat) (p:Nat)=>⟨_,[(16,(true,.a (.one (.t (.v (.int .i64 (r:Nat))))))),(13,(true,.a (.one (.t (.v (.int .i64 (p:Nat))))))),(2,_),(3,_),(5,_),(6,_),(9,_),(10,_),(11,_),(12,_),(14,_),(15,_)],[(12,.box [.t (.v (.int .i64 e.ID)),.t (.v (.int .i64 e.From)),.t (.v (.int .i64 e.To)),.t (.v (.int .i64 e.Label))])]⟩) (fun (r:Nat) (p:Nat)=>a.Accept.length-r) (0) (o) ⟨⟨ZB _,hk.2⟩,(by simp [FJ])⟩ Aw ?_))
   rintro r p ⟨hk1,he1⟩
   refine Ae (Af (Ab ?_));refine A7 Db ?_;refine Aj FU ?_;refine Bi (.t) ZF ?_;refine AWl.lt ?_;refine Aa (Ai (.tm U) (fun h50=>?_) (fun h50=>?_))
   · try simp only [BE,AN,AM] at h50
     try simp only [ZA] at h50
     try simp at h50
     obtain⟨row,hr1,hr2,hr3,hn1,hn2⟩:=Ex ha (s:=(r:Int)) (k:=y.letter) (by omega) (by omega) (by omega) (by omega)
     refine Am (Ae (AW.block (Ae (Bx 12 (DM [[],[0],[],[0,1,2],[0,1,2,3],[],[],[6],[5,6,7],[0,1,2,3,4,5,6,7,8],[0,1,2,3,4,5,6,7,8,9],[0,1,2,3,4,5,6,7,8,9,10]]) (by kernel_rfl) (by kernel_rfl) (by kernel_rfl) ?_))));refine Bz Da ?_;refine A5 Gh ?_;refine Az ?_;refine AB.s (fun _ hs=>(Ak U (.no U) (Ag hs U) (hs.tm U) (hs.tm U) ZS Cc (fun _=>⟨by omega,(by exact Ao hr1)⟩))) ?_;refine A5 Cc ?_;refine AB.s (fun _ hs=>(by exact Be U (.no U) (Ag hs U) (hs.tm U) (hs.res _ _ U) Cq U U)) ?_;refine Bz Im ?_;refine A5 ty4 ?_;refine AB.s (fun _ hs=>Bc (FnT.fr (hlet)) U (.no U) (Ag hs U) (.cons (hs.tm U) (AD hs U) (.cons (hs.tm U) (AD hs U) .nil))) ?_;refine AB.s (fun _ hs=>(by exact Ak U (.no U) (Ag hs U) (hs.tm U) (hs.tm U) ZD ty3 (fun _=>⟨by omega,(by exact Ao hr3)⟩))) ?_;refine A5 ty3 ?_
     refine AB.s (fun _ hs=>Cl U (.no U) (Ag hs U) (hs.tm U)) ?_;refine Bs U U ?_;refine Aa (Ae (As (Ay [2,3,5,6,9,10,11,12,13,14,15,16,17] [12]) ?_));refine Ad (Ab ?_);refine Ab ?_;refine Ac (J3 U (.no U) U (.tm U) (.tm U) (fun _=>by omega)) U ?_;refine Ac (Hz U (.no U) U (.tm U) (.const U) (fun _=>by first|exact ZG _|omega)) U ?_;refine Bw ?_;refine Ab ?_;refine Cm ?_;refine Ac (O0 U (by exact .yes1 U U U U) U (.tmp U (by exact id)) (.const U)) U ?_;refine Cn ?_;refine Aa (Ai (.tm U) (fun h72=>?_) (fun h72=>?_))
     · try simp only [BE,AN,AM] at h72
       try simp only [ZA] at h72
       try simp at h72
       have h2x:=K3 ha (x:=(CJ a r y.letter).toNat) (by omega)
       have h2p:=ZL (CJ a r y.letter).toNat
       refine As (Ay [2,3,5,6,9,10,11,12,13,14,15,16,17] [12]) ?_;refine Ad (Ab ?_);refine Ab ?_;refine Ac (F9 U (.no U) U (.const U) (.tm U) (fun _=>by omega)) U ?_;refine Ac (HN U (.no U) U (.tm U) (.tm U) (fun _=>by omega)) U ?_;refine Ah ?_;refine Aa (Ad (Ab ?_));refine A9 ?_;refine Ah ?_;refine Aa ?_
       repeat (with_reducible refine Av ?_)
       refine BV.next (r+1) (p|||2^(CJ a r y.letter).toNat) ⟨⟨by omega,Fp hk1.2 (by omega)⟩,(by rw [AY,h72.1,if_pos rfl,JV,if_pos h72.2,he1])⟩ (by omega) (Au rfl ⟨rfl,rfl,rfl,rfl,rfl,rfl,rfl,rfl,rfl,rfl,rfl,rfl,Y⟩ ⟨(by rfl),Y⟩)
     try simp only [BE,AN,AM] at h72
     try simp only [ZA] at h72
     try simp at h72
     refine Am (As (Ay [2,3,5,6,9,10,11,12,13,14,15,16,17] [12]) ?_);refine Ad (Ab ?_);refine A9 ?_;refine Ah ?_;refine Aa ?_
     repeat (with_reducible refine Av ?_)
     refine BV.next (r+1) (p) ⟨⟨by omega,hk1.2⟩,(by rw [AY];cases hb:(BS a q (AL g nd)).testBit r with|false=>(rw [if_neg (by simp),List.append_nil];exact he1)|true=>(rw [if_pos rfl,JV,if_neg (by have:=h72 hb;omega)];exact he1))⟩ (by omega) (Au rfl ⟨rfl,rfl,rfl,rfl,rfl,rfl,rfl,rfl,rfl,rfl,rfl,rfl,Y⟩ ⟨(by rfl),Y⟩)
   try simp only [BE,AN,AM] at h50
   try simp only [ZA] at h50
   try simp at h50
   refine Bf (Ad (Ab ?_));refine A9 ?_;refine Ah ?_;refine Aa ?_
   repeat (with_reducible refine Av ?_)
   refine BV.next (q+1) (p) ⟨⟨by omega,hk1.2⟩,(by rw [AY,hb1,if_pos rfl,List.foldl_append,←he,he1,show r=a.Accept.length by omega,←Gv hcl (by omega)];rfl)⟩ (by omega) (Au rfl ⟨rfl,rfl,rfl,rfl,rfl,rfl,rfl,rfl,rfl,rfl,Y⟩ ⟨(by rfl),Y⟩)
 try simp only [BE,AN,AM] at h30
 try simp only [ZA] at h30
 try simp at h30
 refine Bf (Af (Bb Cq ?_));refine A7 Im ?_;refine Aj ty4 ?_;refine By (hto) ?_;refine Ab ?_;refine Ah ?_;refine Ah ?_;refine Aa (Aq (Cd U (.tmp U (.tmp U .nil)) U ?_ (by simp)))
 unfold DX;rw [Gv hS (by omega),he,show q=a.Accept.length by omega];rfl
theorem IU (g:AC) (a:AA) (ha:AJ a=true) (hg:AI g=true) (nd:Int) (hnd:0≤nd∧nd<g.Values.length) (S0:Nat) (hS:S0<2^a.Accept.length):FnT ZC 60 [.agg (AG g),.agg (AE a),.one (.v (.int .i64 nd)),.one (.v (.int .i64 (S0:Int)))] (.a (.one (.v (.bool (Hy a S0 (AL g nd)))))):=by
 refine A8 ZT U (by kernel_rfl) ZU U fun hlen w0=>?_
 try simp [BC,AP,AG,BG,AE] at hlen
 have hA:=AR ha
 have hP:=DC ha
 have hvx:=CH hg hnd
 refine Af (Ac (Bg U U U (.tm U) (ts:=_) (by rfl)) U ?_);refine Ac (Bg U U U (.tm U) (ts:=_) (by rfl)) U ?_;refine An ?_;refine Aa (Ae (Af (An ?_)));refine Aa (AW.block (B9 (fun (k:Nat)=>(k≤a.Accept.length∧∀ j,j<k→(S0.testBit j&&acc a (j:Nat) (AL g nd))=false)∧True) (fun (k:Nat)=>⟨_,[(9,(true,.a (.one (.t (.v (.int .i64 (k:Nat))))))),(2,_),(3,_),(4,_),(5,_)],[]⟩) (fun (k:Nat)=>a.Accept.length-k) (0) ⟨⟨ZB _,fun j hj=>absurd hj (Nat.not_lt_zero j)⟩,Y⟩ (Au U ⟨U,U,U,U,U,Y⟩ trivial) ?_))
 rintro k ⟨hk,he⟩
 refine Ae (Af (Ab ?_));refine A7 Db ?_;refine Aj FU ?_;refine Bi (.t) ZF ?_;refine AWl.lt ?_;refine Aa (Ai (.tm U) (fun h14=>?_) (fun h14=>?_))
 · try simp only [BE,AN,AM] at h14
   try simp only [ZA] at h14
   try simp at h14
   refine Am (Ae (AW.block (Af (Ab ?_))));refine Ab ?_;refine Ac (J3 U (.no U) U (.tm U) (.tm U) (fun _=>by omega)) U ?_;refine Ac (Hz U (.no U) U (.tm U) (.const U) (fun _=>by first|exact ZG _|omega)) U ?_;refine Bw ?_;refine Ab ?_;refine Ac (Br U (by exact .yes1 U U U U) U (.tmp U (by exact fun _=>rfl)) B7 U U) U ?_;refine Ac (Br U (by exact .yes1 U U U U) U (.tmp U (by exact fun _=>rfl)) B6 U U) U ?_;refine Cm ?_;refine Cm ?_;refine Ac (Cw U (by exact .yes1 U U U U) U (.cons (.tmp U (by exact id)) U (.cons (.tmp U (by exact id)) U (.cons (.tmp U (by exact id)) U (.cons (.tmp U (by exact id)) U .nil)))) fun hq=>FnT.fr (IV g a ha hg nd (k:Int) (AL g nd) hnd.1 hvx.1 (by omega))) U ?_;refine Cn ?_;refine Aa (Ai (.tm U) (fun h28=>?_) (fun h28=>?_))
   · skip
     simp only [BE] at h28;simp only [ZA] at h28
     refine Ae (As (Ay [2,3,4,5,9] []) ?_);refine Ad (An ?_);refine Aa (Aq (Bl U U ?_))
     unfold Hy;rw [Gv hS (by omega),FI,Pf (by omega) h28]
   skip
   simp only [BE] at h28;simp only [ZA] at h28
   refine Am (As (Ay [2,3,4,5,9] []) ?_);refine Ad (Ab ?_);refine A9 ?_;refine Ah ?_;refine Aa ?_
   repeat (with_reducible refine Av ?_)
   refine BF.next (k+1) ⟨⟨by omega,Kj hk.2 h28⟩,Y⟩ (by omega) (Au rfl ⟨rfl,rfl,rfl,rfl,rfl,Y⟩ trivial)
 try simp only [BE,AN,AM] at h14
 try simp only [ZA] at h14
 try simp at h14
 refine Bf (Af (An ?_));refine Aa (Aq (Bl U U ?_))
 unfold Hy;rw [Gv hS (by omega),FI,NB (by omega) hk.2]
theorem IT (g:AC) (a:AA) (ha:AJ a=true) (hg:AI g=true) (c x:Int) (hx:0≤x∧x<g.Values.length):FnT ZC 59 [.agg (AG g),.agg (AE a),.one (.v (.int .i64 c)),.one (.v (.int .i64 x))] (.a (.one (.sl 5 ((E8 g a c x).map cNd)))):=by
 refine A8 ZV U (by kernel_rfl) ZW U fun hlen w0=>?_
 try simp [BC,AP,AG,BG,AE] at hlen
 have hA:=AR ha
 have hG:=CA hg
 have hP:=DC ha
 refine Af (Ac (Bg U U U (.tm U) (ts:=_) (by rfl)) U ?_);refine Ac (Bg U U U (.tm U) (ts:=_) (by rfl)) U ?_;refine An ?_;refine Ch (i:=8) 20001 5 U U ?_;refine Aa (Af (Ab ?_));refine A7 Jn ?_;refine Aj ty3 ?_;refine Ac (F9 U (.no U) U (.const U) (.tm U) (fun _=>by omega)) U ?_;refine Ac (Bm (ps:=[(0,.tmp 17),(1,.tmp 20),(2,.const (.int .i64 (-1)))]) U U U V7 U U YU (.cons (.tm U) U U VH (.cons (.tm U) U U VG (.cons (.const U) U U VF .nil))) U) U ?_;refine Bp (Ce (xs:=[.tmp 21]) 22 U U U (.cons (.tm U) U U .nil) Z9 V7 U U U U) U ?_;refine Ah ?_;refine Aa (Ae (Ae (As (Ay [0,1,2,3,4,5,8,9] [20001,22]) ?_)));refine Ad (An ?_)
 refine Aa (AW.block (B9 (fun (k:Nat)=>(k≤(BQ g a c x k).length∧k≤20480)∧True) (fun (k:Nat)=>⟨_,[(10,(true,.a (.one (.t (.v (.int .i64 (k:Nat))))))),(9,(true,.a (.one (.rf 22)))),(2,_),(4,_),(5,_),(8,_)],[(22,.row 5 ((BQ g a c x k).map cNd))]⟩) (fun (k:Nat)=>20480-k) (0) ⟨⟨ZB _,ZB _⟩,Y⟩ (Au U ⟨U,U,U,U,U,U,Y⟩ ⟨(by refine congrArg (fun r=>some (R.row 5 r)) ?_;first|rfl|(simp [expN];done)|(simp [BQ,IS,cNd];done)),Y⟩) ?_))
 rintro k ⟨hk,he⟩
 refine Ae (Af (Ab ?_));refine Ab ?_;refine Bi (.rf U) Z9 ?_;refine AWl.lt ?_;refine Aa (Ai (.tm U) (fun h26=>?_) (fun h26=>?_))
 · try simp at h26
   obtain⟨d,hd⟩:∃ ξ,(BQ g a c x k)[k]?=some ξ:=⟨_,ZE (by omega)⟩
   have hI:=ExI.at g a c x k
   have hr:=hI.rch d (ZH hd)
   have hrr:=hr.rng ha hg hx
   have hll:=hI.len ha hg hx
   have hkl:=(List.getElem?_eq_some_iff.1 hd).1
   have hvd:=CH hg hrr.1
   have hexp:BQ g a c x (k+1)=expN g a c k d (AV g d.node).length (BQ g a c x k):=by rw [BQ,hd]
   have hmo:∀ j,(BQ g a c x k).length≤(expN g a c k d j (BQ g a c x k)).length:=fun j=>by (obtain⟨r,h⟩:=Jq g a c k d (BQ g a c x k) ((AV g d.node).take j);unfold expN;rw [h,ZM];omega)
   have hal:(AV g d.node).length≤24:=ZN (FH _ _) (by omega)
   refine Am (Ae (AW.block (Ae (Bx 8 (DM [[],[],[],[1,2],[1,2,3],[1,2,3,4],[0,1,2,3,4,5],[0,1,2,3,4,5,6]]) (by kernel_rfl) (by kernel_rfl) (by kernel_rfl) ?_))));refine A5 B7 ?_;refine Az ?_;refine Az ?_;refine AB.s (fun _ hs=>(by exact A3 U (.no U) (Ag hs U) (hs.tm U) (hs.res _ _ U) (hs.tm U) Z9 IK (fun _=>⟨by omega,(by exact Ao hd)⟩))) ?_;refine AB.s (fun _ hs=>(by exact Dk U (.no U) (Ag hs U) (hs.tm U) Il)) ?_;refine AB.s (fun _ hs=>(by exact Ca U (.no U) (Ag hs U) (hs.tm U) (hs.res _ _ U) (by exact Ao hd) ty3 U U)) ?_;refine AB.s (fun _ hs=>Bc (FnT.fr (Nx g d.node (by omega))) U (.no U) (Ag hs U) (.cons (hs.tm U) (AD hs U) (.cons (hs.tm U) (AD hs U) .nil))) ?_;refine AB.s (fun _ hs=>Cl U (.no U) (Ag hs U) (hs.tm U)) ?_;refine Bs U U ?_;refine Aa (Ae (As (Ay [2,4,5,8,9,10,11] [22]) ?_));refine Ad (An ?_)
   refine Aa (AW.block (B9 (fun (i:Nat)=>(i≤(AV g d.node).length)∧True) (fun (i:Nat)=>⟨_,[(12,(true,.a (.one (.t (.v (.int .i64 (i:Nat))))))),(9,(true,.a (.one (.rf 22)))),(2,_),(4,_),(5,_),(8,_),(10,_),(11,_)],[(22,.row 5 ((expN g a c k d i (BQ g a c x k)).map cNd))]⟩) (fun (i:Nat)=>(AV g d.node).length-i) (0) ⟨ZB _,Y⟩ (Au U ⟨U,U,U,U,U,U,U,U,Y⟩ ⟨(by refine congrArg (fun r=>some (R.row 5 r)) ?_;first|rfl|(simp [expN];done)|(simp [BQ,IS,cNd];done)),Y⟩) ?_))
   rintro i ⟨hk1,he1⟩
   refine Ae (Af (Ab ?_));refine Ab ?_;refine Bi (.t) ZI ?_;refine AWl.lt ?_;refine Aa (Ai (.tm U) (fun h39=>?_) (fun h39=>?_))
   · try simp at h39
     obtain⟨y,hy⟩:∃ ξ,(AV g d.node)[i]?=some ξ:=⟨_,ZE (by omega)⟩
     have hym:=ZH hy
     have hsy:((AV g d.node).map (·.step))[i]?=some y.step:=by (rw [List.getElem?_map,hy];rfl)
     have hI2:=hI.expN (k:=k) hr i
     have hl2:=hI2.len ha hg hx
     have hdk:(expN g a c k d i (BQ g a c x k))[k]?=some d:=by (rw [HH (by omega)];exact hd)
     have hto:=DO hg hym
     have hvt:=CH hg hto.2.2
     refine Am (Ae (AW.block (Ae (Bx 22 (DM [[],[],[],[],[2,3],[2,3,4],[2,3,4,5],[],[],[7,8],[7,8,9],[7,8,9,10],[],[],[12,13],[12,13,14],[0,1,2,3,4,5,6,7,8,9,10,11,12,13,14,15],[0,1,2,3,4,5,6,7,8,9,10,11,12,13,14,15,16],[0,1,2,3,4,5,6,7,8,9,10,11,12,13,14,15,16,17],[0,1,2,3,4,5,6,7,8,9,10,11,12,13,14,15,16,17],[0,1,2,3,4,5,6,7,8,9,10,11,12,13,14,15,16,17,18],[0,1,2,3,4,5,6,7,8,9,10,11,12,13,14,15,16,17,18,19,20]]) (by kernel_rfl) (by kernel_rfl) (by kernel_rfl) ?_))));refine A5 B7 ?_;refine A5 B6 ?_;refine Az ?_;refine Az ?_;refine AB.s (fun _ hs=>(by exact A3 U (.no U) (Ag hs U) (hs.tm U) (hs.res _ _ U) (hs.tm U) Z9 IK (fun _=>⟨by omega,(by exact Ao hdk)⟩))) ?_;refine AB.s (fun _ hs=>(by exact Dk U (.no U) (Ag hs U) (hs.tm U) Il)) ?_;refine AB.s (fun _ hs=>(by exact Ca U (.no U) (Ag hs U) (hs.tm U) (hs.res _ _ U) (by exact Ao hdk) ty3 U U)) ?_
     refine Az ?_;refine Az ?_;refine AB.s (fun _ hs=>(by exact A3 U (.no U) (Ag hs U) (hs.tm U) (hs.res _ _ U) (hs.tm U) Z9 IK (fun _=>⟨by omega,(by exact Ao hdk)⟩))) ?_;refine AB.s (fun _ hs=>(by exact Dk U (.no U) (Ag hs U) (hs.tm U) Qk)) ?_;refine AB.s (fun _ hs=>(by exact Ca U (.no U) (Ag hs U) (hs.tm U) (hs.res _ _ U) (by exact Ao hdk) ty3 U U)) ?_;refine Az ?_;refine Az ?_;refine AB.s (fun _ hs=>(by exact Ak U (.no U) (Ag hs U) (hs.tm U) (hs.tm U) ZI Ds (fun _=>⟨by omega,(by exact Ao hsy)⟩))) ?_;refine A5 Ds ?_;refine AB.s (fun _ hs=>Bc (FnT.fr (Mn g a ha hg d.node hrr.1 d.set hrr.2 y hym)) U (.no U) (Ag hs U) (.cons (hs.tm U) (AD hs U) (.cons (hs.tm U) (AD hs U) (.cons (hs.tm U) (AD hs U) (.cons (hs.tm U) (AD hs U) (.cons (hs.tm U) (AD hs U) .nil)))))) ?_
     refine AB.s (fun _ hs=>Dd U (.no U) (Ag hs U) (hs.slots _ _ U) fun _=>rfl) ?_;refine AB.s (fun _ hs=>Bk U (.no U) (Ag hs U) (hs.slots _ _ U) (fun _=>rfl) U) ?_;refine AB.s (fun _ hs=>Bk U (.no U) (Ag hs U) (hs.slots _ _ U) (fun _=>rfl) U) ?_;refine AB.s (fun _ hs=>Cl U (.no U) (Ag hs U) (hs.tm U)) ?_;refine AB.s (fun _ hs=>Cl U (.no U) (Ag hs U) (hs.tm U)) ?_;refine Bs U U ?_;refine Aa (Ae (Ae (As (Ay [2,4,5,8,9,10,11,12,13,14] [22]) ?_)));refine Bx 21 (DM [[],[0],[0,1],[0,1,2],[0,1,2],[0,1,2,4],[0,1,2],[0,1,2],[0,1,2,6,7],[0,1,2,6,7,8],[0,1,2,6,7,8,9],[0,1,2,4,5,6,7,8,9,10],[0,1,2,4,5,6,7,8,9,10,11],[0,1,2],[0,1,2,13],[0,1,2],[0,1,2,13,14,15],[0,1,2,13,14,15,16],[0,1,2,3,4,5,6,7,8,9,10,11,12,13,14,15,16,17],[0,1,2,3,4,5,6,7,8,9,10,11,12,13,14,15,16,17,18],[0,1,2,3,4,5,6,7,8,9,10,11,12,13,14,15,16,17,18,19]]) (by kernel_rfl) (by kernel_rfl) (by kernel_rfl) ?_
     refine Az ?_;refine AB.s (fun _ hs=>Kc U (.no U) (Ag hs U) (hs.tm U) (.const U)) ?_;refine Az ?_;refine AB.s (fun _ hs=>Bh U (by exact hs.n1) (Ag hs U) (hs.tm U)) ?_;refine AB.s (fun _ hs=>(by exact Bu U (by exact hs.n1) (Ag hs U) (hs.tm U) Ci)) ?_;refine AB.s (fun _ hs=>(by exact Br U (by exact hs.n1) (Ag hs U) (hs.ti U) Cc U U)) ?_;refine AB.s (fun _ hs=>Bh U (by exact hs.n1) (Ag hs U) (hs.tm U)) ?_;refine AB.s (fun _ hs=>Bh U (by exact hs.n1) (Ag hs U) (hs.tm U)) ?_;refine AB.s (fun _ hs=>(by exact A3 U (by exact hs.n1) (Ag hs U) (hs.ti U) (hs.res _ _ U) (hs.ti U) Z9 IK (fun hq=>by (try simp at hq);exact⟨by omega,(by exact Ao hdk)⟩))) ?_;refine AB.s (fun _ hs=>(by exact Dk U (by exact hs.n1) (Ag hs U) (hs.ti U) Il)) ?_
     refine AB.s (fun _ hs=>(by exact Ca U (by exact hs.n1) (Ag hs U) (hs.ti U) (hs.res _ _ U) (by exact Ao hdk) ty3 U U)) ?_;refine AB.s (fun _ hs=>(by exact Ak U (by exact hs.n1) (Ag hs U) (hs.ti U) (hs.ti U) ZD ty3 (fun hq=>by (try simp at hq);exact⟨by omega,(by exact Ao hvd.1)⟩))) ?_;refine AB.s (fun _ hs=>(by exact Br U (by exact hs.n1) (Ag hs U) (hs.ti U) ty3 U U)) ?_;refine AB.s (fun _ hs=>(by exact Bu U (by exact hs.n1) (Ag hs U) (hs.tm U) Ci)) ?_;refine AB.s (fun _ hs=>(by exact Br U (by exact hs.n1) (Ag hs U) (hs.ti U) Cc U U)) ?_;refine AB.s (fun _ hs=>Bh U (by exact hs.n1) (Ag hs U) (hs.tm U)) ?_;refine AB.s (fun _ hs=>(by exact Ak U (by exact hs.n1) (Ag hs U) (hs.ti U) (hs.ti U) ZD ty3 (fun hq=>by (try simp at hq);exact⟨by omega,(by exact Ao hvt.1)⟩))) ?_
     refine AB.s (fun _ hs=>(by exact Br U (by exact hs.n1) (Ag hs U) (hs.ti U) ty3 U U)) ?_;refine AB.s (fun _ hs=>Bc (FnT.fr (K0 _ _ _)) U (by exact hs.n1) (Ag hs U) (.cons (hs.ti U) (AD hs U) (.cons (hs.ti U) (AD hs U) (.cons (hs.ti U) (AD hs U) .nil)))) ?_;refine AB.s (fun _ hs=>Du U (by exact hs.n1) (Ag hs U) (hs.ti U)) ?_;refine AB.s (fun _ hs=>OK U (.no U) (Ag hs U) (hs.tm U) (hs.ti U)) ?_;refine Bs U U ?_;refine Aa (Ai (.tm U) (fun h82=>?_) (fun h82=>?_))
     · try simp at h82
       have hsk:IC g a c d y=true:=by (unfold IC EU;simp only [Bool.or_eq_true,decide_eq_true_eq];rcases h82 with h|h;(exact .inl (by omega));(exact .inr (by simpa using h)))
       refine Bf (As (Ay [2,4,5,8,9,10,11,12,13,14] [22]) ?_);refine Ad (Ab ?_);refine A9 ?_;refine Ah ?_;refine Aa ?_
       repeat (with_reducible refine Av ?_)
       refine BF.next (i+1) ⟨by omega,Y⟩ (by omega) (Au rfl ⟨rfl,rfl,rfl,rfl,rfl,rfl,rfl,rfl,Y⟩ ⟨(by refine congrArg (fun r=>some (R.row 5 r)) ?_;first|rfl|(rw [Er hy];unfold F8;rw [hsk];rfl)|(rw [Er hy];unfold F8;rw [if_neg (by rw [hsk,hany];simpa using h110)];simp [AH,cNd,EU];done)|(rw [Er hy];unfold F8;rw [if_pos (by rw [hany];simp_all)];done)|(rw [hexp,show i=(AV g d.node).length by first|omega|(simp at h39;omega)];done)),Y⟩)
     try simp at h82
     have hsk:IC g a c d y=false:=by (unfold IC EU;simp only [Bool.or_eq_false_iff,decide_eq_false_iff_not];exact⟨by have:=h82.1;omega,by simpa using h82.2⟩)
     refine Am (Ae (As (Ay [2,4,5,8,9,10,11,12,13,14] [22]) ?_));refine Ad (An ?_);refine Aa (Ae (Af (An ?_)));refine Aa (AW.block (Cp (fun (j:Nat) (b:Bool)=>(j≤(expN g a c k d i (BQ g a c x k)).length)∧b=((expN g a c k d i (BQ g a c x k)).take j).any (Mr y.to (EU g a d y))) (fun (j:Nat) (b:Bool)=>⟨_,[(16,(true,.a (.one (.t (.v (.int .i64 (j:Nat))))))),(15,(true,.a (.one (.t (.v (.bool b)))))),(9,(true,.a (.one (.rf 22)))),(2,_),(4,_),(5,_),(8,_),(10,_),(11,_),(12,_),(13,_),(14,_)],[(22,.row 5 ((expN g a c k d i (BQ g a c x k)).map cNd))]⟩) (fun (j:Nat) (b:Bool)=>(expN g a c k d i (BQ g a c x k)).length-j) (0) (false) ⟨ZB _,U⟩ (Au U ⟨U,U,U,U,U,U,U,U,U,U,U,U,Y⟩ ⟨(by refine congrArg (fun r=>some (R.row 5 r)) ?_;first|rfl|(simp [expN];done)|(simp [BQ,IS,cNd];done)),Y⟩) ?_))
     rintro j b ⟨hk2,he2⟩
     refine Ae (Af (Ab ?_));refine Ab ?_;refine Bi (.rf U) Z9 ?_;refine AWl.lt ?_;refine Ab ?_;refine Cm ?_;refine Ac (Du U (by exact .yes1 U U U U) U (.tmp U (by exact id))) U ?_;refine Cn ?_;refine Aa (Ai (.tm U) (fun h90=>?_) (fun h90=>?_))
     · try simp at h90
       have hjl:j<(expN g a c k d i (BQ g a c x k)).length:=by (first|omega|(simp at h90;omega))
       obtain⟨e,hej⟩:∃ ξ,(expN g a c k d i (BQ g a c x k))[j]?=some ξ:=⟨_,ZE hjl⟩
       have hbf:b=false:=by (first|exact h90.2|simp_all)
       refine Am (Ae (AW.block (As (Ay [2,4,5,8,9,10,11,12,13,14,15,16] [22]) ?_)));refine Ad (Ab ?_);refine Ab ?_;refine Ac (A3 U (.no U) U (.tm U) U (.tm U) Z9 IK (fun _=>⟨by omega,(by exact Ao hej)⟩)) U ?_;refine Ac (Dk U (.no U) U (.tm U) Il) U ?_;refine Ac (Ca U (.no U) U (.tm U) U (by exact Ao hej) ty3 U U) U ?_;refine Ab ?_;refine AWl.eq ?_;refine Ab ?_;refine Cm ?_;refine Cm ?_;refine Ac (by exact A3 U (by exact .yes1 U U U U) U (.tmp U (by exact id)) U (.tmp U (by exact id)) Z9 IK (fun hq=>by (try simp at hq);exact⟨by omega,(by exact Ao hej)⟩)) U ?_;refine Ac (Dk U (by exact .yes1 U U U U) U (.tmp U (by exact id)) Qk) U ?_;refine Ac (Ca U (by exact .yes1 U U U U) U (.tmp U (by exact id)) U (by exact Ao hej) ty3 U U) U ?_;refine Cm ?_;refine Ac (Kc U (by exact .yes1 U U U U) U (.tmp U (by exact id)) (.tmp U (by exact id))) U ?_
       refine Cn ?_;refine Ah ?_;refine Aa (As (Ay [2,4,5,8,9,10,11,12,13,14,15,16] [22]) ?_);refine Ad (Ab ?_);refine A9 ?_;refine Ah ?_;refine Aa ?_
       repeat (with_reducible refine Av ?_)
       refine BV.next (j+1) ((decide (e.node=y.to)&&decide ((e.set:Int)=((DX a d.set (AL g d.node) y.letter:Nat):Int)))) ⟨by omega,(by rw [RP hej,←he2,hbf,Bool.false_or,WL];rfl)⟩ (by omega) (Au rfl ⟨rfl,rfl,rfl,rfl,rfl,rfl,rfl,rfl,rfl,rfl,rfl,rfl,Y⟩ ⟨(by refine congrArg (fun r=>some (R.row 5 r)) ?_;first|rfl|(rw [Er hy];unfold F8;rw [hsk];rfl)|(rw [Er hy];unfold F8;rw [if_neg (by rw [hsk,hany];simpa using h110)];simp [AH,cNd,EU];done)|(rw [Er hy];unfold F8;rw [if_pos (by rw [hany];simp_all)];done)|(rw [hexp,show i=(AV g d.node).length by first|omega|(simp at h39;omega)];done)),Y⟩)
     try simp at h90
     have hany:(expN g a c k d i (BQ g a c x k)).any (Mr y.to (EU g a d y))=b:=by (by_cases hjl:j<(expN g a c k d i (BQ g a c x k)).length;(have hbt:b=true:=by (first|(simp at h90;exact h90 hjl)|simp_all));(rw [hbt];rw [hbt] at he2;obtain⟨z,hz1,hz2⟩:=ZO.1 he2.symm;exact ZO.2 ⟨z,List.mem_of_mem_take hz1,hz2⟩);(rw [List.take_of_length_le (by omega)] at he2;exact he2.symm))
     refine Bf (Ae (As (Ay [2,4,5,8,9,10,11,12,13,14,15,16] [22]) ?_));refine Ad (Ab ?_);refine Cy ?_;refine Aa (Ai (.tm U) (fun h110=>?_) (fun h110=>?_))
     · try simp at h110
       refine Ad (Ab ?_);refine Ab ?_;refine Ab ?_;refine Ab ?_;refine Ab ?_;refine Ab ?_;refine Ac (Ak U (.no U) U (.tm U) (.tm U) ZI Ds (fun _=>⟨by omega,(by exact Ao hsy)⟩)) U ?_;refine Aj Ds ?_;refine Ac (Bm (ps:=[(0,.tmp 112),(1,.tmp 113),(2,.tmp 114),(3,.tmp 118)]) U U U V7 U U YU (.cons (.tm U) U U VH (.cons (.tm U) U U VG (.cons (.tm U) U U VF (.cons (.tm U) U U Y0 .nil)))) U) U ?_;refine Ac (Cf (xs:=[.tmp 119]) (rows:=[cNd ⟨y.to,EU g a d y,(k:Int),y.step⟩]) U U U (.cons (.tm U) U U .nil) Z9 V7 U U (U)) U ?_;refine Bt (B8 U U U (.tm U) U (.tm U) (by exact .t) (by rfl) Z9 V7 U (by (simp [AH];omega)) (by (unfold maxLen;simp [AH];omega))) U ?_;refine Bv (Ay [2,4,5,8,9,10,11,12,13,14,15,16,110,121] [22]) ?_;refine Ah ?_;refine Aa (Ad (Ab ?_));refine A9 ?_;refine Ah ?_;refine Aa ?_
       repeat (with_reducible refine Av ?_)
       refine BF.next (i+1) ⟨by omega,Y⟩ (by omega) (Au rfl ⟨rfl,rfl,rfl,rfl,rfl,rfl,rfl,rfl,Y⟩ ⟨(by refine congrArg (fun r=>some (R.row 5 r)) ?_;first|rfl|(rw [Er hy];unfold F8;rw [hsk];rfl)|(rw [Er hy];unfold F8;rw [if_neg (by rw [hsk,hany];simpa using h110)];simp [AH,cNd,EU];done)|(rw [Er hy];unfold F8;rw [if_pos (by rw [hany];simp_all)];done)|(rw [hexp,show i=(AV g d.node).length by first|omega|(simp at h39;omega)];done)),Y⟩)
     try simp at h110
     refine Am (Ad (Ab ?_));refine A9 ?_;refine Ah ?_;refine Aa ?_
     repeat (with_reducible refine Av ?_)
     refine BF.next (i+1) ⟨by omega,Y⟩ (by omega) (Au rfl ⟨rfl,rfl,rfl,rfl,rfl,rfl,rfl,rfl,Y⟩ ⟨(by refine congrArg (fun r=>some (R.row 5 r)) ?_;first|rfl|(rw [Er hy];unfold F8;rw [hsk];rfl)|(rw [Er hy];unfold F8;rw [if_neg (by rw [hsk,hany];simpa using h110)];simp [AH,cNd,EU];done)|(rw [Er hy];unfold F8;rw [if_pos (by rw [hany];simp_all)];done)|(rw [hexp,show i=(AV g d.node).length by first|omega|(simp at h39;omega)];done)),Y⟩)
   try simp at h39
   refine Bf (Ad (Ab ?_));refine A9 ?_;refine Ah ?_;refine Aa ?_
   repeat (with_reducible refine Av ?_)
   refine BF.next (k+1) ⟨⟨by rw [hexp];have:=hmo (AV g d.node).length;omega,by omega⟩,Y⟩ (by omega) (Au rfl ⟨rfl,rfl,rfl,rfl,rfl,rfl,Y⟩ ⟨(by refine congrArg (fun r=>some (R.row 5 r)) ?_;first|rfl|(rw [Er hy];unfold F8;rw [hsk];rfl)|(rw [Er hy];unfold F8;rw [if_neg (by rw [hsk,hany];simpa using h110)];simp [AH,cNd,EU];done)|(rw [Er hy];unfold F8;rw [if_pos (by rw [hany];simp_all)];done)|(rw [hexp,show i=(AV g d.node).length by first|omega|(simp at h39;omega)];done)),Y⟩)
 try simp at h26
 refine Bf (Af (Ab ?_));refine Ah ?_;refine Aa (Aq (Res.one U (.tmp U .nil) U ?_))
 rw [X0 (k:=k) hk.2 (by omega)];rfl
theorem HZ (g:AC) (a:AA) (c:Int):FnT ZC 24 [.agg (AG g),.agg (AE a),.one (.v (.int .i64 c))] (.a (.one (.sl 2 ((CN g a c).map BC)))):=by
 refine A8 ZX U (by kernel_rfl) ZY U fun hlen w0=>?_
 try simp [BC,AP,AG,BG,AE] at hlen
 skip
 refine Af (Ac (Bg U U U (.tm U) (ts:=_) (by rfl)) U ?_);refine Ac (Bg U U U (.tm U) (ts:=_) (by rfl)) U ?_;refine An ?_;refine Ch (i:=6) 20001 2 U U ?_;refine Aa (Af (A6 (C7 11 U U U ZZ Dq U) U ?_));refine Ah ?_;refine Aa (Ae (Af (Aj B7 ?_)));refine Aj B6 ?_;refine By (He g a 0 0) ?_;refine Cy ?_;refine Ab ?_;refine AWl.mw ?_;refine Ac (Bc (FnT.fr (DR c 0 4)) U (by exact .not1 U U U U) U (.cons (.tmp U (by exact id)) U (.cons (.const U) U (.cons (.const U) U .nil)))) U ?_;refine Ac (Du U (by exact .not1 U U U U) U (.tmp U (by exact id))) U ?_;refine Co ?_;refine Aa (Ai (.tm U) (fun h20=>?_) (fun h20=>?_))
 · try simp at h20
   have hcn:(EA g a&&inB c 0 4)=false:=by (rw [Qh] at h20;cases hq1:EA g a<;>cases hq2:inB c 0 4<;>simp_all)
   refine Ae (As (Ay [0,1,2,3,4,6,7] [20001,11]) ?_);refine Ad (Ab ?_);refine Ah ?_;refine Aa (Aq (Res.one U (.tmp U .nil) U ?_))
   unfold CN;rw [if_neg (by rw [hcn];simp)];rfl
 try simp at h20
 have hcc:(EA g a&&inB c 0 4)=true:=by (rw [Qh] at h20;cases hq1:EA g a<;>cases hq2:inB c 0 4<;>simp_all)
 have hgc:EA g a=true:=by (simp only [Bool.and_eq_true] at hcc;exact hcc.1)
 obtain⟨hg,ha⟩:=JK hgc
 have hG:=CA hg
 refine Am (Ae (Ae (As (Ay [0,1,2,3,4,6,7] [20001,11]) ?_)));refine Ad (An ?_);refine Aa (AW.block (B9 (fun (x:Nat)=>(x≤g.Values.length)∧True) (fun (x:Nat)=>⟨_,[(8,(true,.a (.one (.t (.v (.int .i64 (x:Nat))))))),(7,(true,.a (.one (.rf 11)))),(2,_),(3,_),(4,_),(6,_)],[(11,.row 2 ((H4 El (MK g a c x)).map BC))]⟩) (fun (x:Nat)=>g.Values.length-x) (0) ⟨ZB _,Y⟩ (Au U ⟨U,U,U,U,U,U,Y⟩ ⟨(by refine congrArg (fun r=>some (R.row 2 r)) ?_;first|rfl|(simp [GT];done)|(simp [MK,H4];done)),Y⟩) ?_))
 rintro x ⟨hk,he⟩
 refine Ae (Af (Ab ?_));refine A7 Ci ?_;refine Aj Cc ?_;refine Bi (.t) ZD ?_;refine AWl.lt ?_;refine Aa (Ai (.tm U) (fun h26=>?_) (fun h26=>?_))
 · try simp at h26
   have hxV:x<g.Values.length:=by omega
   have hxr:0≤(x:Int)∧(x:Int)<g.Values.length:=by omega
   have htl:=RD ha hg c x (by omega)
   have hel:=Ln ha hg (c:=c) hxr
   refine Am (Ae (AW.block (Af (Aj B7 ?_))));refine Aj B6 ?_;refine Ab ?_;refine Ab ?_;refine By (IT g a ha hg c (x:Int) hxr) ?_;refine Ah ?_;refine Aa (Ae (As (Ay [2,3,4,6,7,8,9] [11]) ?_));refine Ad (An ?_);refine Aa (AW.block (B9 (fun (k:Nat)=>(k≤(E8 g a c x).length)∧True) (fun (k:Nat)=>⟨_,[(10,(true,.a (.one (.t (.v (.int .i64 (k:Nat))))))),(7,(true,.a (.one (.rf 11)))),(2,_),(3,_),(4,_),(6,_),(8,_),(9,_)],[(11,.row 2 ((H4 El (MK g a c x++GT g a c x k)).map BC))]⟩) (fun (k:Nat)=>(E8 g a c x).length-k) (0) ⟨ZB _,Y⟩ (Au U ⟨U,U,U,U,U,U,U,U,Y⟩ ⟨(by refine congrArg (fun r=>some (R.row 2 r)) ?_;first|rfl|(simp [GT];done)|(simp [MK,H4];done)),Y⟩) ?_))
   rintro k ⟨hk1,he1⟩
   refine Ae (Af (Ab ?_));refine Ab ?_;refine Bi (.t) Z9 ?_;refine AWl.lt ?_;refine Aa (Ai (.tm U) (fun h37=>?_) (fun h37=>?_))
   · try simp at h37
     obtain⟨d,hd⟩:∃ ξ,(E8 g a c x)[k]?=some ξ:=⟨_,ZE (by omega)⟩
     have hr:=(Jr ha hg (c:=c) hxr).1 (List.mem_map.2 ⟨d,ZH hd,rfl⟩)
     have hrr:=hr.rng ha hg hxr
     have hrl:=Px g a c x k
     refine Am (Ae (AW.block (Ae (Bx 13 (DM [[],[],[],[],[2,3],[2,3,4],[2,3,4,5],[],[],[7,8],[7,8,9],[7,8,9,10],[0,1,2,3,4,5,6,7,8,9,10,11]]) (by kernel_rfl) (by kernel_rfl) (by kernel_rfl) ?_))));refine A5 B7 ?_;refine A5 B6 ?_;refine Az ?_;refine Az ?_;refine AB.s (fun _ hs=>(Ak U (.no U) (Ag hs U) (hs.tm U) (hs.tm U) Z9 IK (fun _=>⟨by omega,(Ao hd)⟩))) ?_;refine Bz Il ?_;refine A5 ty3 ?_;refine Az ?_;refine Az ?_;refine AB.s (fun _ hs=>(by exact Ak U (.no U) (Ag hs U) (hs.tm U) (hs.tm U) Z9 IK (fun _=>⟨by omega,(Ao hd)⟩))) ?_;refine Bz Qk ?_;refine A5 ty3 ?_;refine AB.s (fun _ hs=>Bc (FnT.fr (IU g a ha hg d.node hrr.1 d.set hrr.2)) U (.no U) (Ag hs U) (.cons (hs.tm U) (AD hs U) (.cons (hs.tm U) (AD hs U) (.cons (hs.tm U) (AD hs U) (.cons (hs.tm U) (AD hs U) .nil))))) ?_;refine Bs U U ?_
     refine Aa (Ai (.tm U) (fun h52=>?_) (fun h52=>?_))
     · try simp at h52
       have hb:Iu g a d=true:=h52
       refine As (Ay [2,3,4,6,7,8,9,10] [11]) ?_;refine Ad (Ab ?_);refine Ab ?_;refine Ab ?_;refine Ab ?_;refine Ac (by exact Ak U (.no U) U (.tm U) (.tm U) Z9 IK (fun _=>⟨by omega,(Ao hd)⟩)) U ?_;refine A7 Il ?_;refine Aj ty3 ?_;refine Ac (Bm (ps:=[(0,.tmp 54),(1,.tmp 59)]) U U U NS U U Yu (.cons (.tm U) U U SS (.cons (.tm U) U U SR .nil)) U) U ?_;apply Ec
       case ho=>
        apply G9 (xo:=.tmp 53) 11 (Ny (H4 El (MK g a c x++GT g a c x k)) ⟨(x:Int),d.node⟩ (ZN (N5 _) (by rw [ZM];omega))) rfl rfl rfl (.tm rfl)
        case ha=>rfl
        case hargs=>exact (IM.own (FC.agg (.tm rfl) .nil))
        all_goals rfl
       case hd=>rfl
       refine Ah ?_;refine Aa (As (Ay [2,3,4,6,7,8,9,10] [11]) ?_);refine Ad (Ab ?_);refine A9 ?_;refine Ah ?_;refine Aa ?_
       repeat (with_reducible refine Av ?_)
       refine BF.next (k+1) ⟨by omega,Y⟩ (by omega) (Au rfl ⟨rfl,rfl,rfl,rfl,rfl,rfl,rfl,rfl,Y⟩ ⟨(by refine congrArg (fun r=>some (R.row 2 r)) ?_;first|(rw [HI hd,hb,if_pos rfl,←ZJ,←L7];done)|(rw [HI hd,hb];simp;done)|(rw [JO,show k=(E8 g a c x).length by first|omega|(simp at h37;omega)];done)|(simp [GT];done)),Y⟩)
     try simp at h52
     have hb:Iu g a d=false:=by simpa [Iu] using h52
     refine Am (As (Ay [2,3,4,6,7,8,9,10] [11]) ?_);refine Ad (Ab ?_);refine A9 ?_;refine Ah ?_;refine Aa ?_
     repeat (with_reducible refine Av ?_)
     refine BF.next (k+1) ⟨by omega,Y⟩ (by omega) (Au rfl ⟨rfl,rfl,rfl,rfl,rfl,rfl,rfl,rfl,Y⟩ ⟨(by refine congrArg (fun r=>some (R.row 2 r)) ?_;first|(rw [HI hd,hb,if_pos rfl,←ZJ,←L7];done)|(rw [HI hd,hb];simp;done)|(rw [JO,show k=(E8 g a c x).length by first|omega|(simp at h37;omega)];done)|(simp [GT];done)),Y⟩)
   try simp at h37
   refine Bf (Ad (Ab ?_));refine A9 ?_;refine Ah ?_;refine Aa ?_
   repeat (with_reducible refine Av ?_)
   refine BF.next (x+1) ⟨by omega,Y⟩ (by omega) (Au rfl ⟨rfl,rfl,rfl,rfl,rfl,rfl,Y⟩ ⟨(by refine congrArg (fun r=>some (R.row 2 r)) ?_;first|(rw [HI hd,hb,if_pos rfl,←ZJ,←L7];done)|(rw [HI hd,hb];simp;done)|(rw [JO,show k=(E8 g a c x).length by first|omega|(simp at h37;omega)];done)|(simp [GT];done)),Y⟩)
 try simp at h26
 refine Bf (Af (Ab ?_));refine Ah ?_;refine Aa (Aq (Res.one U (.tmp U .nil) U ?_))
 unfold CN;rw [if_pos hcc,show x=g.Values.length by omega,Y7 ha hg c];rfl
end Go.Q
